/- Parts, joined: mutator.caught: the error by which a call left that was caught. No condition. mutator.May: why a mutator may not be. Condition: a bulk of at most 10^8. The reference's word whether a mutator may be. Condition: a bulk of at most 10^8. The reference's May of a mutator. Condition: a bulk of at most 10^8. push.May, and the reference's: why a push may not be. Condition: a bulk of at most 10^8. The reference's word why a push may not be. Condition: a bulk of at most 10^8. -/
import Derived.Test.YtkoliaodkojghaaGreatDoorProg
import Derived.Defers
import Derived.Recover
import Derived.Laws.Pointers
import Derived.Test.YtkoliaodkojghaaGreatDoorKPush2
import Derived.Test.YtkoliaodkojghaaGreatDoorKPush34
import Derived.Test.YtkoliaodkojghaaGreatDoorKPush40
import Derived.Test.YtkoliaodkojghaaGreatDoorKPushMay3
import Derived.Test.YtkoliaodkojghaaGreatDoorKPushMay4
import Derived.Test.YtkoliaodkojghaaGreatDoorKPushMay6
import Derived.Test.YtkoliaodkojghaaGreatDoorKPushMay7
/- mutator.caught: the error by which a call left that was caught. No condition. -/
namespace Go.Proofs.YtkoliaodkojghaaGreatDoor
open Go Go.RowKit

set_option maxRecDepth 100000 in
set_option maxHeartbeats 4000000 in
theorem catch_idle (p : Addr) (w : World) :
    CallsD Tryz.prog 51 #[.pointer (some p)] .returning w fun e u' w' => e = .returned (.tuple #[]) ∧ u' = .returning ∧ w' = w := by
  refine callsD_of_wpS Tryz.func51 rfl fun c₀ cs hu => ?_
  apply wpS_seq
  apply wpS_region
  simp [wpOpsS, go_sem, recoverD, hu, Tryz.ntmps51, Exit.thenS]
  refine wpS_of_wp ?_
  go_wp2
  cases c₀
  simp_all [bodyPostS, results, Tryz.results51]

theorem assert_wrong (W : World) (v : Value) : (Instr.typeAssert (.iface 102 v) 20 102 true).run Tryz.prog W = .ok (.tuple #[v, .bool true]) W := by kernel_rfl
set_option maxRecDepth 100000 in
set_option maxHeartbeats 4000000 in
theorem catch_some (p : Addr) (c x : Int) (w : World) (hc : w.cell? p = some (.int .i64 x)) (hz : w.frozen? p = false) (hp : p.block < w.heap.size) :
    CallsD Tryz.prog 51 #[.pointer (some p)] (.panicking [{ v := .iface 102 (.agg #[.int .i64 c]), recovered := false }]) w fun e u' w' =>
      e = .returned (.tuple #[]) ∧ u' = .panicking [{ v := .iface 102 (.agg #[.int .i64 c]), recovered := true }] ∧ w' = (w.alloc (.cells #[.int .i64 c] 102)).setCell p (.int .i64 c) := by
  have hta := fun w => assert_wrong w (.agg #[.int .i64 c])
  have hz2 : (w.alloc (.cells #[.int .i64 c] 102)).frozen? p = false := ((alloc_below w _).frozen hp).trans hz
  refine callsD_of_wpS Tryz.func51 rfl fun c₀ cs hu => ?_
  apply wpS_seq
  apply wpS_region
  simp [wpOpsS, go_sem, recoverD, hu, Tryz.ntmps51, Exit.thenS]
  refine wpS_of_wp ?_
  go_wp2
  cases c₀
  simp_all [bodyPostS, results, Tryz.results51]

/-- The deferred closure's variable. -/
theorem code_box {w w1 : World} {o : Obj} (hb : Below (w.alloc o).heap.size (w.alloc o) w1) : Below w.heap.size w w1 := (alloc_below w o).trans (hb.mono (by simp))
set_option maxRecDepth 100000 in
set_option maxHeartbeats 4000000 in
theorem caught_calls (c : Int) (q : Addr) (w : World)
    (hdo : ∀ W, Below w.heap.size w W → Calls Tryz.prog 29 #[.pointer (some q)] W fun e w' => e = endE c ∧ Below W.heap.size W w') :
    Calls Tryz.prog 28 #[.func (.func 29) #[] #[.pointer (some q)]] w fun e w' => e = .returned (.int .i64 c) ∧ Below w.heap.size w w' := by
  have hmf : ∀ (fn : Fn) (first cap : Array Value) (w : World), (Instr.makeFunc fn first cap).run Tryz.prog w = .ok (.func fn first cap) w := fun _ _ _ _ => rfl
  have hx := Blk.new w 26 #[.int .i64 0]
  have hD := hdo _ (alloc_below w (.cells #[.int .i64 0] 26))
  have hlt := hx.lt
  by_cases h0 : c = 0
  · subst h0
    rw [endE_zero] at hD
    have HD := Lib.hid hD
    have Hx := Lib.hid hx
    clear hD hx
    clear hdo
    go_enter_defers Tryz.func28, Tryz.ntmps28
    go_wp2_with (go_at_call 29; (with_reducible refine (HD.out).mono ?_); rintro e w1 ⟨rfl, hb1⟩; have hx1 := Hx.out.below hb1 hlt; have d0 := hx1.cell 0; have f0 := hx1.frozen 0)
    refine leaves_cons (f := 51) (args := #[.pointer (some ⟨w.heap.size, 0, none⟩)]) (by simp) (by simp [go_sem]) ?_
    have hx2 := hx1.set_ 0 (.int .i64 0)
    have d2 := hx2.cell 0
    refine (catch_idle ⟨w.heap.size, 0, none⟩ _).mono ?_
    rintro e u' w'' ⟨rfl, rfl, rfl⟩
    simp [Leaves, settle, results, Tryz.results28, go_sem, d2]
    exact (code_box hb1).setCell (Nat.le_refl _) _
  · rw [endE_some h0] at hD
    have HD := Lib.hid hD
    have Hx := Lib.hid hx
    clear hD hx
    clear hdo
    go_enter_defers Tryz.func28, Tryz.ntmps28
    go_wp2_with (go_at_call 29; (with_reducible refine (HD.out).mono ?_); rintro e w1 ⟨rfl, hb1⟩; have hx1 := Hx.out.below hb1 hlt; have d0 := hx1.cell 0; have f0 := hx1.frozen 0)
    refine leaves_cons (f := 51) (args := #[.pointer (some ⟨w.heap.size, 0, none⟩)]) (by simp) (by simp [go_sem]) ?_
    have hx2 := (hx1.alloc (.cells #[.int .i64 c] 102)).set_ 0 (.int .i64 c)
    have d2 := hx2.cell 0
    refine (catch_some ⟨w.heap.size, 0, none⟩ c 0 w1 (by simpa using d0) f0 hx1.lt).mono ?_
    rintro e u' w'' ⟨rfl, rfl, rfl⟩
    simp [Leaves, settle, results, Tryz.results28, go_sem, d2]
    exact ((code_box hb1).alloc (code_box hb1).size _).setCell (Nat.le_refl _) _
end Go.Proofs.YtkoliaodkojghaaGreatDoor

/- mutator.May: why a mutator may not be. Condition: a bulk of at most 10^8. -/
namespace Go.Proofs.YtkoliaodkojghaaGreatDoor
open Go.RowKit

set_option maxRecDepth 100000 in
set_option maxHeartbeats 2000000 in
theorem may1_calls (m : Mut) (cs : List Value) (g : Nat) (W : World) (hT : Tabs W) (hM : Holds W W.heap.size (dM m) cs) (hx : Blk W g 48 cs.toArray) (hb : bulkM m ≤ 100000000) (hi : inM m) :
    Calls Tryz.prog 29 #[.pointer (some ⟨g, 0, none⟩)] W fun e w' => e = endE (mayM m 1) ∧ Below W.heap.size W w' := by
  have hC := look_calls m cs 1 W hT hM hb hi (by omega) (by omega)
  have hs : cs.toArray.size = 19 := by simpa using mut_len hM
  generalize mayM m 1 = Y at hC ⊢
  have HC := Lib.hid hC
  have Hx := Lib.hid hx
  clear hC hx
  go_enter Tryz.func29, Tryz.ntmps29
  iterate 3 go_step
  refine wp_load_blk 48 (.tmp 0) rfl g _ Hx.out rfl _ Tryz.underlying48 rfl (by rw [hs]; kernel_rfl) ?_
  go_wp2_with (fail)
  with_reducible refine (HC.out).mono ?_
  rintro e w1 ⟨rfl, hb1⟩
  by_cases hY : Y = 0
  · subst hY
    rw [endE_zero]
    go_wp2
    go_end0
    exact ⟨rfl, hb1⟩
  · rw [endE_some hY]
    exact ⟨rfl, (endE_some hY).symm, hb1⟩

set_option maxRecDepth 100000 in
set_option maxHeartbeats 2000000 in
theorem mutMay_calls (m : Mut) (cs : List Value) (w : World) (hT : Tabs w) (hM : Holds w w.heap.size (dM m) cs) (hb : bulkM m ≤ 100000000) (hi : inM m) :
    Calls Tryz.prog 15 #[.agg cs.toArray] w fun e w' => e = .returned (.int .i64 (mutMay m)) ∧ Below w.heap.size w w' := by
  obtain ⟨k, key, dst, n, had, ⟨k1, b1, n1, t1, l1, o1⟩, has, ⟨k2, b2, n2, t2, l2, o2⟩, l⟩ := m
  have hM' := hM
  obtain ⟨la1, lc1, oa1, oc1, la2, lc2, oa2, oc2, a, c, rfl, _, _, _⟩ := mut_cells hM
  obtain ⟨wi, hwi⟩ : ∃ wi, w.alloc (.cells #[.int .i64 k, .string key, .string dst, .int .i64 n, .bool had, .int .i64 k1, .bool b1, .int .i64 n1, .string t1, .slice la1 l1.length lc1, .slice oa1 o1.length oc1, .bool has, .int .i64 k2, .bool b2, .int .i64 n2, .string t2, .slice la2 l2.length lc2, .slice oa2 o2.length oc2, .slice a l.length c] 48) = wi := ⟨_, rfl⟩
  have hbi : Below w.heap.size w wi := hwi ▸ alloc_below _ _
  have hxb : Blk wi w.heap.size 48 #[.int .i64 k, .string key, .string dst, .int .i64 n, .bool had, .int .i64 k1, .bool b1, .int .i64 n1, .string t1, .slice la1 l1.length lc1, .slice oa1 o1.length oc1, .bool has, .int .i64 k2, .bool b2, .int .i64 n2, .string t2, .slice la2 l2.length lc2, .slice oa2 o2.length oc2, .slice a l.length c] := hwi ▸ Blk.new _ _ _
  have hmf : ∀ (fn : Fn) (first cap : Array Value) (w : World), (Instr.makeFunc fn first cap).run Tryz.prog w = .ok (.func fn first cap) w := fun _ _ _ _ => rfl
  have hS := msize_calls _ _ wi ((hM'.below hbi).more hbi.size) hb
  have hsz := sizeM_bulk (Mut.mk k key dst n had (.mk k1 b1 n1 t1 l1 o1) has (.mk k2 b2 n2 t2 l2 o2) l)
  have hC : ∀ w1, Below wi.heap.size wi w1 → Calls Tryz.prog 28 #[.func (.func 29) #[] #[.pointer (some ⟨w.heap.size, 0, none⟩)]] w1 fun e w' => e = .returned (.int .i64 (mayM (Mut.mk k key dst n had (.mk k1 b1 n1 t1 l1 o1) has (.mk k2 b2 n2 t2 l2 o2) l) 1)) ∧ Below w1.heap.size w1 w' := fun w1 h1 =>
    caught_calls _ _ w1 fun W hW => by
      have hB := hbi.trans ((h1.trans (hW.mono h1.size)).mono hbi.size)
      exact may1_calls (Mut.mk k key dst n had (.mk k1 b1 n1 t1 l1 o1) has (.mk k2 b2 n2 t2 l2 o2) l) _ w.heap.size W (hT.below hB) ((hM'.below hB).more hB.size) (hxb.below (h1.trans (hW.mono h1.size)) hxb.lt) hb hi
  have hE : mutMay (Mut.mk k key dst n had (.mk k1 b1 n1 t1 l1 o1) has (.mk k2 b2 n2 t2 l2 o2) l) = if 64 < sizeM (Mut.mk k key dst n had (.mk k1 b1 n1 t1 l1 o1) has (.mk k2 b2 n2 t2 l2 o2) l) then 6 else mayM (Mut.mk k key dst n had (.mk k1 b1 n1 t1 l1 o1) has (.mk k2 b2 n2 t2 l2 o2) l) 1 := rfl
  have hSi : ((sizeM (Mut.mk k key dst n had (.mk k1 b1 n1 t1 l1 o1) has (.mk k2 b2 n2 t2 l2 o2) l) : Nat) : Int) ≤ 100000000 := by omega
  have hS0 : (0 : Int) ≤ ((sizeM (Mut.mk k key dst n had (.mk k1 b1 n1 t1 l1 o1) has (.mk k2 b2 n2 t2 l2 o2) l) : Nat) : Int) := by omega
  by_cases h64 : 64 < sizeM (Mut.mk k key dst n had (.mk k1 b1 n1 t1 l1 o1) has (.mk k2 b2 n2 t2 l2 o2) l)
  · rw [if_pos h64] at hE
    have t64 : (64 : Int) < ((sizeM (Mut.mk k key dst n had (.mk k1 b1 n1 t1 l1 o1) has (.mk k2 b2 n2 t2 l2 o2) l) : Nat) : Int) := by omega
    generalize ((sizeM (Mut.mk k key dst n had (.mk k1 b1 n1 t1 l1 o1) has (.mk k2 b2 n2 t2 l2 o2) l) : Nat) : Int) = Z at hS hSi hS0 t64
    have HS := Lib.hid hS
    have Hxb := Lib.hid hxb
    have Hbi := Lib.hid hbi
    have HE := Lib.hid hE
    clear hS hxb hbi hE
    clear hC hM' hM hb hi hsz h64
    go_enter Tryz.func15, Tryz.ntmps15
    go_upto_region 1 with (fail)
    clear hwi
    iterate 2 go_step
    refine wp_load_blk 48 (.tmp 1) rfl w.heap.size _ Hxb.out rfl _ Tryz.underlying48 rfl (by kernel_rfl) ?_
    go_wp2_with (fail)
    with_reducible refine (HS.out).mono ?_
    rintro e w1 ⟨rfl, hb1⟩
    go_wp2
    go_ret
    exact ⟨by rw [HE.out]; rfl, Hbi.out.trans (hb1.mono Hbi.out.size)⟩
  · rw [if_neg h64] at hE
    have t64 : ((sizeM (Mut.mk k key dst n had (.mk k1 b1 n1 t1 l1 o1) has (.mk k2 b2 n2 t2 l2 o2) l) : Nat) : Int) ≤ 64 := by omega
    generalize ((sizeM (Mut.mk k key dst n had (.mk k1 b1 n1 t1 l1 o1) has (.mk k2 b2 n2 t2 l2 o2) l) : Nat) : Int) = Z at hS hSi hS0 t64
    have HS := Lib.hid hS
    have Hxb := Lib.hid hxb
    have Hbi := Lib.hid hbi
    have HE := Lib.hid hE
    have HC := Lib.hid hC
    clear hS hxb hbi hE hC
    clear hM' hM hb hi hsz h64
    go_enter Tryz.func15, Tryz.ntmps15
    go_upto_region 1 with (fail)
    clear hwi
    iterate 2 go_step
    refine wp_load_blk 48 (.tmp 1) rfl w.heap.size _ Hxb.out rfl _ Tryz.underlying48 rfl (by kernel_rfl) ?_
    go_wp2_with (fail)
    with_reducible refine (HS.out).mono ?_
    rintro e w1 ⟨rfl, hb1⟩
    go_wp2_with (fail)
    with_reducible refine (HC.out _ hb1).mono ?_
    rintro e w2 ⟨rfl, hb2⟩
    go_wp2
    go_ret
    exact ⟨by rw [HE.out]; rfl, (Hbi.out.trans (hb1.mono Hbi.out.size)).trans (hb2.mono (Nat.le_trans Hbi.out.size hb1.size))⟩
end Go.Proofs.YtkoliaodkojghaaGreatDoor

/- The reference's word whether a mutator may be. Condition: a bulk of at most 10^8. -/
namespace Go.Proofs.YtkoliaodkojghaaGreatDoor
open Go.RowKit

def RMayC (m : Mut) : Prop := ∀ (cs : List Value) (d : Int) (w : World), Tabs w → Holds w w.heap.size (dM m) cs → bulkM m ≤ 100000000 → inM m → 1 ≤ d → d ≤ 7 →
  Calls Tryz.prog 32 #[.agg cs.toArray, .int .i64 d] w fun e w' => e = .returned (.int .i64 (mayM m d)) ∧ Below w.heap.size w w'

set_option maxRecDepth 100000 in
set_option maxHeartbeats 16000000 in
theorem rmay_step (k : Int) (key dst : ByteArray) (n : Int) (had : Bool) (k1 : Int) (b1 : Bool) (n1 : Int) (t1 : ByteArray) (l1 : List Val) (o1 : List (ByteArray × Val)) (has : Bool) (k2 : Int) (b2 : Bool) (n2 : Int) (t2 : ByteArray) (l2 : List Val) (o2 : List (ByteArray × Val)) (l : List Mut) (ih : ∀ x ∈ l, RMayC x) : RMayC (Mut.mk k key dst n had (.mk k1 b1 n1 t1 l1 o1) has (.mk k2 b2 n2 t2 l2 o2) l) := by
  intro cs d w hT hM hb hi hd1 hd7
  obtain ⟨la1, lc1, oa1, oc1, la2, lc2, oa2, oc2, a, c, rfl, hv1, hv2, hl⟩ := mut_cells hM
  have hls := bulkMs_len l
  simp only [bulkM] at hb
  simp only [inM] at hi
  obtain ⟨_, hi1, hi2, hi3⟩ := hi
  obtain ⟨wi, hwi⟩ : ∃ wi, w.alloc (.cells #[.int .i64 k, .string key, .string dst, .int .i64 n, .bool had, .int .i64 k1, .bool b1, .int .i64 n1, .string t1, .slice la1 l1.length lc1, .slice oa1 o1.length oc1, .bool has, .int .i64 k2, .bool b2, .int .i64 n2, .string t2, .slice la2 l2.length lc2, .slice oa2 o2.length oc2, .slice a l.length c] 48) = wi := ⟨_, rfl⟩
  have hbi : Below w.heap.size w wi := hwi ▸ alloc_below _ _
  have hxb : Blk wi w.heap.size 48 #[.int .i64 k, .string key, .string dst, .int .i64 n, .bool had, .int .i64 k1, .bool b1, .int .i64 n1, .string t1, .slice la1 l1.length lc1, .slice oa1 o1.length oc1, .bool has, .int .i64 k2, .bool b2, .int .i64 n2, .string t2, .slice la2 l2.length lc2, .slice oa2 o2.length oc2, .slice a l.length c] := hwi ▸ Blk.new _ _ _
  have hST := fun (W : World) (hB : Below w.heap.size w W) => rbare_calls k key dst n had k1 b1 n1 t1 l1 o1 has k2 b2 n2 t2 l2 o2 l la1 lc1 oa1 oc1 la2 lc2 oa2 oc2 a l.length c W (HoldsV.more hB.size _ _ (hv1.below hB)) (HoldsV.more hB.size _ _ (hv2.below hB)) (by omega) (by omega)
  have hKE := fun (W : World) => r11key_calls k key dst had (.int .i64 n) (.int .i64 k1) (.bool b1) (.int .i64 n1) (.string t1) (.slice la1 l1.length lc1) (.slice oa1 o1.length oc1) (.bool has) (.int .i64 k2) (.bool b2) (.int .i64 n2) (.string t2) (.slice la2 l2.length lc2) (.slice oa2 o2.length oc2) (.slice a l.length c) W (by omega) (by omega)
  have hF1 : ∀ (W : World) (_ : Below w.heap.size w W), Calls Tryz.prog 59 #[.agg #[.int .i64 k1, .bool b1, .int .i64 n1, .string t1, .slice la1 l1.length lc1, .slice oa1 o1.length oc1]] W fun e w' => e = .returned (.int .i64 (fitsV (.mk k1 b1 n1 t1 l1 o1))) ∧ Below W.heap.size W w' := fun W hB => RFits_calls _ _ W (hT.below hB) (HoldsV.more hB.size _ _ (hv1.below hB)) (by omega) hi1
  have hF2 : ∀ (W : World) (_ : Below w.heap.size w W), Calls Tryz.prog 59 #[.agg #[.int .i64 k2, .bool b2, .int .i64 n2, .string t2, .slice la2 l2.length lc2, .slice oa2 o2.length oc2]] W fun e w' => e = .returned (.int .i64 (fitsV (.mk k2 b2 n2 t2 l2 o2))) ∧ Below W.heap.size W w' := fun W hB => RFits_calls _ _ W (hT.below hB) (HoldsV.more hB.size _ _ (hv2.below hB)) (by omega) hi2
  have hMX : mayM (Mut.mk k key dst n had (.mk k1 b1 n1 t1 l1 o1) has (.mk k2 b2 n2 t2 l2 o2) l) d = mayM (Mut.mk k key dst n had (.mk k1 b1 n1 t1 l1 o1) has (.mk k2 b2 n2 t2 l2 o2) l) d := rfl
  conv at hMX => rhs; simp only [mayM]
  generalize mayM (Mut.mk k key dst n had (.mk k1 b1 n1 t1 l1 o1) has (.mk k2 b2 n2 t2 l2 o2) l) d = X at hMX ⊢
  generalize fitsV (.mk k1 b1 n1 t1 l1 o1) = X1 at hF1 hMX
  generalize fitsV (.mk k2 b2 n2 t2 l2 o2) = X2 at hF2 hMX
  generalize keyedB k key dst had = KB at hKE hMX
  generalize bareF k dst n had (zeroB (.mk k1 b1 n1 t1 l1 o1)) has (zeroB (.mk k2 b2 n2 t2 l2 o2)) l.length = BB at hMX hST
  clear hM
  have HST := Lib.hid hST
  have HKE := Lib.hid hKE
  have HF1 := Lib.hid hF1
  have HF2 := Lib.hid hF2
  have Hxb := Lib.hid hxb
  have Hbi := Lib.hid hbi
  have Hl := Lib.hid hl
  have Ih := Lib.hid ih
  have Hi3 := Lib.hid hi3
  have HT := Lib.hid hT
  clear hST hKE hF1 hF2 hxb hbi hl ih hi3 hT
  cases BB with
  | false =>
    rw [if_pos rfl] at hMX
    have HE := Lib.hid hMX
    clear hMX
    go_enter Tryz.func32, Tryz.ntmps32
    go_upto_region 1 with (fail)
    clear hwi
    iterate 2 go_step
    refine wp_load_blk 48 (.tmp 2) rfl w.heap.size _ Hxb.out rfl _ Tryz.underlying48 rfl (by kernel_rfl) ?_
    go_wp2_with (fail)
    with_reducible refine (HST.out _ Hbi.out).mono ?_
    rintro e w1 ⟨rfl, hb1⟩
    have hbr1 := hb1
    have hbw1 := Hbi.out.trans (hb1.mono Hbi.out.size)
    have hx1 := Hxb.out.below hb1 Hxb.out.lt
    have Hbw1 := Lib.hid hbw1
    have Hx1 := Lib.hid hx1
    have Hbr1 := Lib.hid hbr1
    clear hbw1 hx1 hbr1
    clear hb1
    go_wp2
    go_ret
    exact ⟨by rw [HE.out]; rfl, Hbw1.out⟩
  | true =>
  rw [if_neg (by simp)] at hMX
  by_cases h6 : 6 < d
  · rw [if_pos h6] at hMX
    have HE := Lib.hid hMX
    clear hMX
    go_enter Tryz.func32, Tryz.ntmps32
    go_upto_region 1 with (fail)
    clear hwi
    iterate 2 go_step
    refine wp_load_blk 48 (.tmp 2) rfl w.heap.size _ Hxb.out rfl _ Tryz.underlying48 rfl (by kernel_rfl) ?_
    go_wp2_with (fail)
    with_reducible refine (HST.out _ Hbi.out).mono ?_
    rintro e w1 ⟨rfl, hb1⟩
    have hbr1 := hb1
    have hbw1 := Hbi.out.trans (hb1.mono Hbi.out.size)
    have hx1 := Hxb.out.below hb1 Hxb.out.lt
    have Hbw1 := Lib.hid hbw1
    have Hx1 := Lib.hid hx1
    have Hbr1 := Lib.hid hbr1
    clear hbw1 hx1 hbr1
    clear hb1
    go_wp2
    go_ret
    exact ⟨by rw [HE.out]; rfl, Hbw1.out⟩
  rw [if_neg h6] at hMX
  have h66 : d ≤ 6 := by omega
  clear h6
  cases KB with
  | false =>
    rw [if_pos rfl] at hMX
    have HE := Lib.hid hMX
    clear hMX
    go_enter Tryz.func32, Tryz.ntmps32
    go_upto_region 1 with (fail)
    clear hwi
    iterate 2 go_step
    refine wp_load_blk 48 (.tmp 2) rfl w.heap.size _ Hxb.out rfl _ Tryz.underlying48 rfl (by kernel_rfl) ?_
    go_wp2_with (fail)
    with_reducible refine (HST.out _ Hbi.out).mono ?_
    rintro e w1 ⟨rfl, hb1⟩
    have hbr1 := hb1
    have hbw1 := Hbi.out.trans (hb1.mono Hbi.out.size)
    have hx1 := Hxb.out.below hb1 Hxb.out.lt
    have Hbw1 := Lib.hid hbw1
    have Hx1 := Lib.hid hx1
    have Hbr1 := Lib.hid hbr1
    clear hbw1 hx1 hbr1
    clear hb1
    go_upto_region 5 with (fail)
    iterate 2 go_step
    refine wp_load_blk 48 (.tmp 2) rfl w.heap.size _ Hx1.out rfl _ Tryz.underlying48 rfl (by kernel_rfl) ?_
    go_wp2_with (fail)
    with_reducible refine (HKE.out _).mono ?_
    rintro e w2 ⟨rfl, hb2⟩
    have hbr2 := Hbr1.out.trans (hb2.mono Hbr1.out.size)
    have hbw2 := Hbw1.out.trans (hb2.mono Hbw1.out.size)
    have hx2 := Hx1.out.below hb2 Hx1.out.lt
    have y4 := hx2.cell 4
    have y5 := hx2.cell 5
    have y6 := hx2.cell 6
    have y7 := hx2.cell 7
    have y8 := hx2.cell 8
    have y9 := hx2.cell 9
    have y10 := hx2.cell 10
    have Hbw2 := Lib.hid hbw2
    have Hx2 := Lib.hid hx2
    have Hbr2 := Lib.hid hbr2
    clear hbw2 hx2 hbr2
    clear hb2
    go_wp2
    go_ret
    exact ⟨by rw [HE.out]; rfl, Hbw2.out⟩
  | true =>
  rw [if_neg (by simp)] at hMX
  by_cases h4 : had = true ∧ X1 ≠ 0
  · rw [if_pos h4] at hMX
    have HE := Lib.hid hMX
    clear hMX
    obtain ⟨rfl, h40⟩ := h4
    have t40 : (X1 != 0) = true := by simpa using h40
    go_enter Tryz.func32, Tryz.ntmps32
    go_upto_region 1 with (fail)
    clear hwi
    iterate 2 go_step
    refine wp_load_blk 48 (.tmp 2) rfl w.heap.size _ Hxb.out rfl _ Tryz.underlying48 rfl (by kernel_rfl) ?_
    go_wp2_with (fail)
    with_reducible refine (HST.out _ Hbi.out).mono ?_
    rintro e w1 ⟨rfl, hb1⟩
    have hbr1 := hb1
    have hbw1 := Hbi.out.trans (hb1.mono Hbi.out.size)
    have hx1 := Hxb.out.below hb1 Hxb.out.lt
    have Hbw1 := Lib.hid hbw1
    have Hx1 := Lib.hid hx1
    have Hbr1 := Lib.hid hbr1
    clear hbw1 hx1 hbr1
    clear hb1
    go_upto_region 5 with (fail)
    iterate 2 go_step
    refine wp_load_blk 48 (.tmp 2) rfl w.heap.size _ Hx1.out rfl _ Tryz.underlying48 rfl (by kernel_rfl) ?_
    go_wp2_with (fail)
    with_reducible refine (HKE.out _).mono ?_
    rintro e w2 ⟨rfl, hb2⟩
    have hbr2 := Hbr1.out.trans (hb2.mono Hbr1.out.size)
    have hbw2 := Hbw1.out.trans (hb2.mono Hbw1.out.size)
    have hx2 := Hx1.out.below hb2 Hx1.out.lt
    have y4 := hx2.cell 4
    have y5 := hx2.cell 5
    have y6 := hx2.cell 6
    have y7 := hx2.cell 7
    have y8 := hx2.cell 8
    have y9 := hx2.cell 9
    have y10 := hx2.cell 10
    have Hbw2 := Lib.hid hbw2
    have Hx2 := Lib.hid hx2
    have Hbr2 := Lib.hid hbr2
    clear hbw2 hx2 hbr2
    clear hb2
    go_wp2_with (fail)
    with_reducible refine (HF1.out _ Hbw2.out).mono ?_
    rintro e w3 ⟨rfl, hb3⟩
    have hbw3 := Hbw2.out.trans (hb3.mono Hbw2.out.size)
    go_wp2
    go_ret
    exact ⟨by rw [HE.out]; rfl, hbw3⟩
  rw [if_neg h4] at hMX
  go_enter Tryz.func32, Tryz.ntmps32
  go_upto_region 1 with (fail)
  clear hwi
  iterate 2 go_step
  refine wp_load_blk 48 (.tmp 2) rfl w.heap.size _ Hxb.out rfl _ Tryz.underlying48 rfl (by kernel_rfl) ?_
  go_wp2_with (fail)
  with_reducible refine (HST.out _ Hbi.out).mono ?_
  rintro e w1 ⟨rfl, hb1⟩
  have hbr1 := hb1
  have hbw1 := Hbi.out.trans (hb1.mono Hbi.out.size)
  have hx1 := Hxb.out.below hb1 Hxb.out.lt
  have Hbw1 := Lib.hid hbw1
  have Hx1 := Lib.hid hx1
  have Hbr1 := Lib.hid hbr1
  clear hbw1 hx1 hbr1
  clear hb1
  go_upto_region 5 with (fail)
  iterate 2 go_step
  refine wp_load_blk 48 (.tmp 2) rfl w.heap.size _ Hx1.out rfl _ Tryz.underlying48 rfl (by kernel_rfl) ?_
  go_wp2_with (fail)
  with_reducible refine (HKE.out _).mono ?_
  rintro e w2 ⟨rfl, hb2⟩
  have hbr2 := Hbr1.out.trans (hb2.mono Hbr1.out.size)
  have hbw2 := Hbw1.out.trans (hb2.mono Hbw1.out.size)
  have hx2 := Hx1.out.below hb2 Hx1.out.lt
  have y4 := hx2.cell 4
  have y5 := hx2.cell 5
  have y6 := hx2.cell 6
  have y7 := hx2.cell 7
  have y8 := hx2.cell 8
  have y9 := hx2.cell 9
  have y10 := hx2.cell 10
  have Hbw2 := Lib.hid hbw2
  have Hx2 := Lib.hid hx2
  have Hbr2 := Lib.hid hbr2
  clear hbw2 hx2 hbr2
  clear hb2
  go_upto_region 7 with (fail)
  go_upto_if 18 with (fail)
  go_cut [] (fun wx => Hid (Below wi.heap.size wi wx))
  case first =>
    cases had with
    | false =>
      go_wp2
      go_meet
      exact Hbr2
    | true =>
      obtain rfl : X1 = 0 := by simpa using h4
      go_wp2_with (fail)
      with_reducible refine (HF1.out _ Hbw2.out).mono ?_
      rintro e w3 ⟨rfl, hb3⟩
      have HB := Lib.hid (Hbr2.out.trans (hb3.mono Hbr2.out.size))
      clear hb3
      go_wp2
      go_meet
      exact HB
  case rest =>
    obtain ⟨wm, hwm⟩ : ∃ wm : World, wm = wc := ⟨_, rfl⟩
    subst hwm
    clear Hbr1 Hbr2 Hbw1 Hbw2 Hx1 Hx2 y4 y5 y6 y7 y8 y9 y10 HF1 HST HKE
    have hbr3 := hcut.out
    have hbw3 := Hbi.out.trans (hbr3.mono Hbi.out.size)
    have hx3 := Hxb.out.below hbr3 Hxb.out.lt
    have y0 := hx3.cell 0
    have y11 := hx3.cell 11
    have y12 := hx3.cell 12
    have y13 := hx3.cell 13
    have y14 := hx3.cell 14
    have y15 := hx3.cell 15
    have y16 := hx3.cell 16
    have y17 := hx3.cell 17
    have y18 := hx3.cell 18
    clear hcut
    go_upto_region 11 with (fail)
    go_cut [36] (fun s wx => s = .bool (has || decide (k = 1) || decide (k = 5)) ∧ wx = wm)
    case first =>
      cases has with
      | true =>
        go_wp2
        go_meet
        exact ⟨by simp, rfl⟩
      | false =>
        by_cases e1 : k = 1
        · subst e1
          go_wp2
          go_meet
          exact ⟨by simp, rfl⟩
        have t1 : (k == 1) = false := by simpa using e1
        go_wp2
        go_meet
        exact ⟨by simp [e1, beq_dec], rfl⟩
    case rest =>
    obtain ⟨rfl, hwc⟩ := hcut
    subst hwc
    have Hbr3 := Lib.hid hbr3
    have Hbw3 := Lib.hid hbw3
    have Hx3 := Lib.hid hx3
    clear hbr3 hbw3 hx3
    generalize (has || decide (k = 1) || decide (k = 5)) = P at hMX
    by_cases h5 : P = true ∧ X2 ≠ 0
    · rw [if_pos h5] at hMX
      have HE := Lib.hid hMX
      clear hMX
      obtain ⟨rfl, h50⟩ := h5
      have t50 : (X2 != 0) = true := by simpa using h50
      go_wp2_with (fail)
      with_reducible refine (HF2.out _ Hbw3.out).mono ?_
      rintro e w4 ⟨rfl, hb4⟩
      have hbw4 := Hbw3.out.trans (hb4.mono Hbw3.out.size)
      go_wp2
      go_ret
      exact ⟨by rw [HE.out]; rfl, hbw4⟩
    rw [if_neg h5] at hMX
    go_upto_if 36 with (fail)
    go_cut [] (fun wx => Hid (Below wi.heap.size wi wx))
    case first =>
      cases P with
      | true =>
        obtain rfl : X2 = 0 := by
          by_cases h : X2 = 0
          · exact h
          · exact absurd ⟨rfl, h⟩ h5
        go_wp2_with (fail)
        with_reducible refine (HF2.out _ Hbw3.out).mono ?_
        rintro e w4 ⟨rfl, hb4⟩
        have HB := Lib.hid (Hbr3.out.trans (hb4.mono Hbr3.out.size))
        clear hb4
        go_wp2
        go_meet
        exact HB
      | false =>
        go_wp2
        go_meet
        exact Hbr3
    case rest =>
      have hbr5 := hcut.out
      clear y0 y11 y12 y13 y14 y15 y16 y17 y18 Hbr3 Hbw3 Hx3 h5 HF2 h4
      have hX0 : mayMs (l.drop 0) (d + 1) = X := by rw [List.drop_zero]; exact hMX.symm
      clear hMX
      have Hbr5 := Lib.hid hbr5
      have HX0 := Lib.hid hX0
      clear hbr5 hX0
      clear hcut
      go_wp2_with (fail)
      go_loopw [7] (fun i wr => ∃ q : Nat, i = .int .i64 q ∧ q ≤ l.length ∧ Hid (mayMs (l.drop q) (d + 1) = X) ∧ Hid (Below wi.heap.size wi wr)) (fun i _ => l.length - (intOf i).toNat)
      case atStart => exact ⟨0, rfl, Nat.zero_le _, HX0, Hbr5⟩
      case round =>
        obtain ⟨q, rfl, hq, hX, hbr⟩ := hrel
        clear HX0 Hbr5
        have hbw := Hbi.out.trans (hbr.out.mono Hbi.out.size)
        have y18 := (Hxb.out.below hbr.out Hxb.out.lt).cell 18
        have hgb := Nat.lt_of_lt_of_le Hxb.out.lt hbr.out.size
        by_cases hlt : q < l.length
        · obtain ⟨m, hm⟩ : ∃ p, l[q]? = some p := ⟨_, List.getElem?_eq_getElem hlt⟩
          have hmem := List.mem_of_getElem? hm
          have hbm := bulkMs_mem hmem
          have hC := Ih.out m hmem
          have hin := inMs_mem hmem Hi3.out
          have hXd := hX.out
          rw [mayMs_drop hm] at hXd
          obtain ⟨k', key', dst', n', had', ⟨k1', b1', n1', t1', l1', o1'⟩, has', ⟨k2', b2', n2', t2', l2', o2'⟩, l'⟩ := m
          have hz := hbw.size
          obtain ⟨g, off, rfl, hg, cs', hcs, _, hcell⟩ := mut_at (Hl.out.below hbw) hm
          obtain ⟨la1', lc1', oa1', oc1', la2', lc2', oa2', oc2', a', c', rfl, _, _, _⟩ := mut_cells hcs
          have hrange : wr.rangeAt g (off + q * 19) [.int .i64 k', .string key', .string dst', .int .i64 n', .bool had', .int .i64 k1', .bool b1', .int .i64 n1', .string t1', .slice la1' l1'.length lc1', .slice oa1' o1'.length oc1', .bool has', .int .i64 k2', .bool b2', .int .i64 n2', .string t2', .slice la2' l2'.length lc2', .slice oa2' o2'.length oc2', .slice a' l'.length c'] := hcell
          have hgr : g < wr.heap.size := by omega
          have hq1 : (q : Int) < (l.length : Int) := by omega
          have hq0 : (0 : Int) ≤ q := by omega
          have hC' : Calls Tryz.prog 32 #[.agg #[.int .i64 k', .string key', .string dst', .int .i64 n', .bool had', .int .i64 k1', .bool b1', .int .i64 n1', .string t1', .slice la1' l1'.length lc1', .slice oa1' o1'.length oc1', .bool has', .int .i64 k2', .bool b2', .int .i64 n2', .string t2', .slice la2' l2'.length lc2', .slice oa2' o2'.length oc2', .slice a' l'.length c'], .int .i64 (d + 1)] wr fun e w' => e = .returned (.int .i64 (mayM (Mut.mk k' key' dst' n' had' (.mk k1' b1' n1' t1' l1' o1') has' (.mk k2' b2' n2' t2' l2' o2') l') (d + 1))) ∧ Below wr.heap.size wr w' := hC _ _ wr (HT.out.below hbw) (hcs.more hz) (by omega) hin (by omega) (by omega)
          generalize mayM (Mut.mk k' key' dst' n' had' (.mk k1' b1' n1' t1' l1' o1') has' (.mk k2' b2' n2' t2' l2' o2') l') (d + 1) = Y at hC' hXd
          have HC' := Lib.hid hC'
          have Hbw := Lib.hid hbw
          clear hC' hbw
          clear hC hcs hcell hmem hbm hm hX hin
          go_upto_region 18 with (fail)
          iterate 14 go_step
          refine wp_load_mid 48 (.tmp 53) rfl g (off + q * 19) rfl [.int .i64 k', .string key', .string dst', .int .i64 n', .bool had', .int .i64 k1', .bool b1', .int .i64 n1', .string t1', .slice la1' l1'.length lc1', .slice oa1' o1'.length oc1', .bool has', .int .i64 k2', .bool b2', .int .i64 n2', .string t2', .slice la2' l2'.length lc2', .slice oa2' o2'.length oc2', .slice a' l'.length c'] _ hrange Tryz.underlying48 rfl (by kernel_rfl) ?_
          go_wp2_with (fail)
          with_reducible refine (HC'.out).mono ?_
          rintro e w6 ⟨rfl, hb6⟩
          have hbf := hbr.out.trans (hb6.mono hbr.out.size)
          by_cases hY : Y = 0
          · subst hY
            rw [if_pos rfl] at hXd
            have HXd := Lib.hid hXd
            have Hbf := Lib.hid hbf
            clear hXd hbf
            clear hb6
            go_wp2
            go_roundw
            case rel => exact ⟨q + 1, by go_num, by omega, HXd, Hbf⟩
            case measure => simp only [intOf]; omega
          · rw [if_neg hY] at hXd
            have tY : (Y != 0) = true := by simpa using hY
            have HXd := Lib.hid hXd
            have Hbf := Lib.hid hbf
            clear hXd hbf
            clear hb6
            go_wp2
            go_ret
            exact ⟨by rw [← HXd.out]; rfl, Hbi.out.trans (Hbf.out.mono Hbi.out.size)⟩
        · obtain rfl : q = l.length := by omega
          have hE := hX.out
          rw [List.drop_length] at hE
          have hE' : X = 0 := hE.symm
          subst hE'
          have Hbw := Lib.hid hbw
          clear hbw
          clear hX hE
          go_wp2
          go_ret
          exact ⟨rfl, Hbw.out⟩

theorem rmay_calls : ∀ m, RMayC m := by
  refine Mut.ind ?_
  intro k key dst n had was has v l IH
  obtain ⟨k1, b1, n1, t1, l1, o1⟩ := was
  obtain ⟨k2, b2, n2, t2, l2, o2⟩ := v
  exact rmay_step k key dst n had k1 b1 n1 t1 l1 o1 has k2 b2 n2 t2 l2 o2 l IH
end Go.Proofs.YtkoliaodkojghaaGreatDoor

/- The reference's May of a mutator. Condition: a bulk of at most 10^8. -/
namespace Go.Proofs.YtkoliaodkojghaaGreatDoor
open Go.RowKit

set_option maxRecDepth 100000 in
set_option maxHeartbeats 2000000 in
theorem rmutMay_calls (m : Mut) (cs : List Value) (w : World) (hT : Tabs w) (hM : Holds w w.heap.size (dM m) cs) (hb : bulkM m ≤ 100000000) (hi : inM m) :
    Calls Tryz.prog 16 #[.agg cs.toArray] w fun e w' => e = .returned (.int .i64 (mutMay m)) ∧ Below w.heap.size w w' := by
  obtain ⟨k, key, dst, n, had, ⟨k1, b1, n1, t1, l1, o1⟩, has, ⟨k2, b2, n2, t2, l2, o2⟩, l⟩ := m
  have hM' := hM
  obtain ⟨la1, lc1, oa1, oc1, la2, lc2, oa2, oc2, a, c, rfl, _, _, _⟩ := mut_cells hM
  obtain ⟨wi, hwi⟩ : ∃ wi, w.alloc (.cells #[.int .i64 k, .string key, .string dst, .int .i64 n, .bool had, .int .i64 k1, .bool b1, .int .i64 n1, .string t1, .slice la1 l1.length lc1, .slice oa1 o1.length oc1, .bool has, .int .i64 k2, .bool b2, .int .i64 n2, .string t2, .slice la2 l2.length lc2, .slice oa2 o2.length oc2, .slice a l.length c] 48) = wi := ⟨_, rfl⟩
  have hbi : Below w.heap.size w wi := hwi ▸ alloc_below _ _
  have hxb : Blk wi w.heap.size 48 #[.int .i64 k, .string key, .string dst, .int .i64 n, .bool had, .int .i64 k1, .bool b1, .int .i64 n1, .string t1, .slice la1 l1.length lc1, .slice oa1 o1.length oc1, .bool has, .int .i64 k2, .bool b2, .int .i64 n2, .string t2, .slice la2 l2.length lc2, .slice oa2 o2.length oc2, .slice a l.length c] := hwi ▸ Blk.new _ _ _
  have hS := rsize_calls _ _ wi ((hM'.below hbi).more hbi.size) hb
  have hsz := sizeM_bulk (Mut.mk k key dst n had (.mk k1 b1 n1 t1 l1 o1) has (.mk k2 b2 n2 t2 l2 o2) l)
  have hC : ∀ w1, Below wi.heap.size wi w1 → Calls Tryz.prog 32 #[.agg #[.int .i64 k, .string key, .string dst, .int .i64 n, .bool had, .int .i64 k1, .bool b1, .int .i64 n1, .string t1, .slice la1 l1.length lc1, .slice oa1 o1.length oc1, .bool has, .int .i64 k2, .bool b2, .int .i64 n2, .string t2, .slice la2 l2.length lc2, .slice oa2 o2.length oc2, .slice a l.length c], .int .i64 1] w1 fun e w' => e = .returned (.int .i64 (mayM (Mut.mk k key dst n had (.mk k1 b1 n1 t1 l1 o1) has (.mk k2 b2 n2 t2 l2 o2) l) 1)) ∧ Below w1.heap.size w1 w' := fun w1 h1 => by
    have hB := hbi.trans (h1.mono hbi.size)
    exact rmay_calls _ _ 1 w1 (hT.below hB) ((hM'.below hB).more hB.size) hb hi (by omega) (by omega)
  have hE : mutMay (Mut.mk k key dst n had (.mk k1 b1 n1 t1 l1 o1) has (.mk k2 b2 n2 t2 l2 o2) l) = if 64 < sizeM (Mut.mk k key dst n had (.mk k1 b1 n1 t1 l1 o1) has (.mk k2 b2 n2 t2 l2 o2) l) then 6 else mayM (Mut.mk k key dst n had (.mk k1 b1 n1 t1 l1 o1) has (.mk k2 b2 n2 t2 l2 o2) l) 1 := rfl
  have hSi : ((sizeM (Mut.mk k key dst n had (.mk k1 b1 n1 t1 l1 o1) has (.mk k2 b2 n2 t2 l2 o2) l) : Nat) : Int) ≤ 100000000 := by omega
  have hS0 : (0 : Int) ≤ ((sizeM (Mut.mk k key dst n had (.mk k1 b1 n1 t1 l1 o1) has (.mk k2 b2 n2 t2 l2 o2) l) : Nat) : Int) := by omega
  by_cases h64 : 64 < sizeM (Mut.mk k key dst n had (.mk k1 b1 n1 t1 l1 o1) has (.mk k2 b2 n2 t2 l2 o2) l)
  · rw [if_pos h64] at hE
    have t64 : (64 : Int) < ((sizeM (Mut.mk k key dst n had (.mk k1 b1 n1 t1 l1 o1) has (.mk k2 b2 n2 t2 l2 o2) l) : Nat) : Int) := by omega
    generalize ((sizeM (Mut.mk k key dst n had (.mk k1 b1 n1 t1 l1 o1) has (.mk k2 b2 n2 t2 l2 o2) l) : Nat) : Int) = Z at hS hSi hS0 t64
    have HS := Lib.hid hS
    have Hxb := Lib.hid hxb
    have Hbi := Lib.hid hbi
    have HE := Lib.hid hE
    clear hS hxb hbi hE
    clear hC hM' hM hb hi hsz h64
    go_enter Tryz.func16, Tryz.ntmps16
    go_upto_region 1 with (fail)
    clear hwi
    iterate 2 go_step
    refine wp_load_blk 48 (.tmp 1) rfl w.heap.size _ Hxb.out rfl _ Tryz.underlying48 rfl (by kernel_rfl) ?_
    go_wp2_with (fail)
    with_reducible refine (HS.out).mono ?_
    rintro e w1 ⟨rfl, hb1⟩
    go_wp2
    go_ret
    exact ⟨by rw [HE.out]; rfl, Hbi.out.trans (hb1.mono Hbi.out.size)⟩
  · rw [if_neg h64] at hE
    have t64 : ((sizeM (Mut.mk k key dst n had (.mk k1 b1 n1 t1 l1 o1) has (.mk k2 b2 n2 t2 l2 o2) l) : Nat) : Int) ≤ 64 := by omega
    generalize ((sizeM (Mut.mk k key dst n had (.mk k1 b1 n1 t1 l1 o1) has (.mk k2 b2 n2 t2 l2 o2) l) : Nat) : Int) = Z at hS hSi hS0 t64
    have HS := Lib.hid hS
    have Hxb := Lib.hid hxb
    have Hbi := Lib.hid hbi
    have HE := Lib.hid hE
    have HC := Lib.hid hC
    clear hS hxb hbi hE hC
    clear hM' hM hb hi hsz h64
    go_enter Tryz.func16, Tryz.ntmps16
    go_upto_region 1 with (fail)
    clear hwi
    iterate 2 go_step
    refine wp_load_blk 48 (.tmp 1) rfl w.heap.size _ Hxb.out rfl _ Tryz.underlying48 rfl (by kernel_rfl) ?_
    go_wp2_with (fail)
    with_reducible refine (HS.out).mono ?_
    rintro e w1 ⟨rfl, hb1⟩
    go_upto_region 3 with (fail)
    iterate 2 go_step
    refine wp_load_blk 48 (.tmp 1) rfl w.heap.size _ (Hxb.out.below hb1 Hxb.out.lt) rfl _ Tryz.underlying48 rfl (by kernel_rfl) ?_
    go_wp2_with (fail)
    with_reducible refine (HC.out _ hb1).mono ?_
    rintro e w2 ⟨rfl, hb2⟩
    go_wp2
    go_ret
    exact ⟨by rw [HE.out]; rfl, (Hbi.out.trans (hb1.mono Hbi.out.size)).trans (hb2.mono (Nat.le_trans Hbi.out.size hb1.size))⟩
end Go.Proofs.YtkoliaodkojghaaGreatDoor

/- push.May, and the reference's: why a push may not be. Condition: a bulk of at most 10^8. -/
namespace Go.Proofs.YtkoliaodkojghaaGreatDoor
open Go.RowKit

/-- A mutator with its number, among others. -/
theorem num_at {w : World} {B n c : Nat} {l : List Num} {a : Option Addr} (h : Holds w B (.row 20 (dNs l)) [.slice a n c]) {q : Nat} {p : Num} (hi : l[q]? = some p) :
    ∃ g off, a = some ⟨g, off, none⟩ ∧ g < B ∧ ∃ cs, Holds w B (dM p.m) cs ∧ cs.length = 19 ∧ w.cell? ⟨g, off + q * 20, none⟩ = some (.int .u64 p.id) ∧ ∀ j u, cs[j]? = some u → w.cell? ⟨g, off + q * 20 + 1 + j, none⟩ = some u := by
  obtain ⟨g, off, ea, hg, cs, h1, h2, h3⟩ := h.at_ (i := q) (d := dN p) (by unfold dNs; rw [List.getElem?_map, hi]; rfl)
  unfold dN at h1
  simp only [Holds] at h1
  obtain ⟨_, _, rfl, ⟨rfl, _⟩, x, _, rfl, h4, rfl⟩ := h1
  refine ⟨g, off, ea, hg, x, h4, mut_len h4, by simpa using h3 0 _ rfl, fun j u hu => ?_⟩
  have := h3 (1 + j) u (by rw [Nat.add_comm 1 j]; simpa using hu)
  rwa [← Nat.add_assoc] at this
theorem bulkN_mem {l : List Num} {p : Num} (h : p ∈ l) : bulkM p.m ≤ bulkN l := by
  induction l with
  | nil => cases h
  | cons x r ih =>
    simp only [bulkN]
    rcases List.mem_cons.1 h with rfl | h
    · omega
    · have := ih h; omega
theorem bulkN_len (l : List Num) : l.length ≤ bulkN l := by
  induction l with
  | nil => simp [bulkN]
  | cons x r ih => simp only [bulkN, List.length_cons]; omega
theorem mayNs_drop {l : List Num} {q : Nat} {p : Num} (h : l[q]? = some p) : mayNs (l.drop q) = if p.id ≤ 0 ∨ 4611686018427387903 < p.id then 2 else if mutMay p.m = 0 then mayNs (l.drop (q + 1)) else mutMay p.m := by
  obtain ⟨hlt, rfl⟩ := List.getElem?_eq_some_iff.1 h
  rw [List.drop_eq_getElem_cons hlt]
  rfl

theorem blk_range1 {w : World} {g : Nat} {t : TypeId} {x : Value} {cs : List Value} (h : Blk w g t (x :: cs).toArray) : w.rangeAt g 1 cs := fun j v hv => (h.cell (1 + j)).trans (by rw [Nat.add_comm]; simpa using hv)

set_option maxRecDepth 100000 in
theorem isNumber_calls (n : Int) (B : Bool) (w : World) (h : decide (0 < n ∧ n ≤ 4611686018427387903) = B) : Calls Tryz.prog 14 #[.int .u64 n] w fun e w' => e = .returned (.bool B) ∧ w' = w := by
  subst h
  by_cases h1 : 0 < n
  · by_cases h2 : n ≤ 4611686018427387903
    · rw [show decide (0 < n ∧ n ≤ 4611686018427387903) = true from by simp [h1, h2]]
      go_enter Tryz.func14, Tryz.ntmps14
      go_wp2
      go_ret
      exact ⟨by simp [], rfl⟩
    · rw [show decide (0 < n ∧ n ≤ 4611686018427387903) = false from by simp [h2]]
      go_enter Tryz.func14, Tryz.ntmps14
      go_wp2
      go_ret
      exact ⟨by simp [], rfl⟩
  · rw [show decide (0 < n ∧ n ≤ 4611686018427387903) = false from by simp [h1]]
    go_enter Tryz.func14, Tryz.ntmps14
    go_wp2
    go_ret
    exact ⟨rfl, rfl⟩

set_option maxRecDepth 100000 in
set_option maxHeartbeats 8000000 in
theorem pushMay_calls (c : Int) (l : List Num) (a : Option Addr) (n cc : Nat) (w : World) (_ : 0 ≤ c) (hT : Tabs w) (h : Holds w w.heap.size (.row 20 (dNs l)) [.slice a n cc]) (hb : bulkN l ≤ 100000000) (hin : inN l) :
    Calls Tryz.prog 6 #[.agg #[.int .u64 c, .slice a n cc]] w fun e w' => e = .returned (.int .i64 (mayPush c l)) ∧ Below w.heap.size w w' := by
  have hn := h.row_len
  rw [dNs_len] at hn
  subst hn
  have hlq := bulkN_len l
  have hE : mayPush c l = mayPush c l := rfl
  conv at hE => rhs; unfold mayPush
  generalize mayPush c l = X at hE ⊢
  by_cases h1 : c ≤ 0 ∨ 4611686018427387903 < c
  · rw [if_pos h1] at hE
    have hC := fun W => isNumber_calls c false W (by simp; omega)
    have HC := Lib.hid hC
    have HE := Lib.hid hE
    clear hC hE
    clear h hT
    go_enter Tryz.func6, Tryz.ntmps6
    go_wp2_with (fail)
    with_reducible refine (HC.out _).mono ?_
    rintro e w1 ⟨rfl, rfl⟩
    go_wp2
    go_ret
    exact ⟨by rw [HE.out]; rfl, alloc_below _ _⟩
  rw [if_neg h1] at hE
  have hC := fun W => isNumber_calls c true W (by simp; omega)
  by_cases h2 : 64 < l.length
  · rw [if_pos h2] at hE
    have t2 : (64 : Int) < (l.length : Int) := by omega
    have HC := Lib.hid hC
    have HE := Lib.hid hE
    clear hC hE
    clear h hT
    go_enter Tryz.func6, Tryz.ntmps6
    go_wp2_with (fail)
    with_reducible refine (HC.out _).mono ?_
    rintro e w1 ⟨rfl, rfl⟩
    go_wp2
    go_ret
    exact ⟨by rw [HE.out]; rfl, alloc_below _ _⟩
  rw [if_neg h2] at hE
  have t2 : (l.length : Int) ≤ 64 := by omega
  have hI0 : Hid (Below w.heap.size w (w.alloc (.cells #[.int .u64 c, .slice a l.length cc] 25))) := Lib.hid (alloc_below _ _)
  have hX0 : Hid (mayNs (l.drop 0) = X) := Lib.hid (by rw [List.drop_zero]; exact hE.symm)
  clear hE
  have HC := Lib.hid hC
  have H := Lib.hid h
  have HT := Lib.hid hT
  have Hin := Lib.hid hin
  clear hC h hT hin
  go_enter Tryz.func6, Tryz.ntmps6
  go_wp2_with (fail)
  with_reducible refine (HC.out _).mono ?_
  rintro e w1 ⟨rfl, rfl⟩
  go_wp2_with (fail)
  go_loopw [17] (fun i wr => ∃ q : Nat, i = .int .i64 q ∧ q ≤ l.length ∧ Hid (mayNs (l.drop q) = X) ∧ Hid (Below w.heap.size w wr)) (fun i _ => l.length - (intOf i).toNat)
  case atStart => exact ⟨0, rfl, Nat.zero_le _, hX0, hI0⟩
  case round =>
    obtain ⟨q, rfl, hq, hX, hbr⟩ := hrel
    clear hX0 hI0
    by_cases hlt : q < l.length
    · obtain ⟨p, hp⟩ : ∃ p, l[q]? = some p := ⟨_, List.getElem?_eq_getElem hlt⟩
      have hmem := List.mem_of_getElem? hp
      have hbm := bulkN_mem hmem
      obtain ⟨hid0, hin'⟩ := Hin.out p hmem
      have hXd := hX.out
      rw [mayNs_drop hp] at hXd
      obtain ⟨id, k', key', dst', n', had', ⟨k1', b1', n1', t1', l1', o1'⟩, has', ⟨k2', b2', n2', t2', l2', o2'⟩, l'⟩ := p
      have hz := hbr.out.size
      obtain ⟨g, off, rfl, hg, cs', hcs, _, hc0, hcell⟩ := num_at (H.out.below hbr.out) hp
      obtain ⟨la1', lc1', oa1', oc1', la2', lc2', oa2', oc2', a', c', rfl, _, _, _⟩ := mut_cells hcs
      simp only at hXd hbm hin' hc0 hid0
      have hrange : wr.rangeAt g (off + q * 20) [.int .u64 id, .int .i64 k', .string key', .string dst', .int .i64 n', .bool had', .int .i64 k1', .bool b1', .int .i64 n1', .string t1', .slice la1' l1'.length lc1', .slice oa1' o1'.length oc1', .bool has', .int .i64 k2', .bool b2', .int .i64 n2', .string t2', .slice la2' l2'.length lc2', .slice oa2' o2'.length oc2', .slice a' l'.length c'] := fun j u hu => by
        cases j with
        | zero => simp only [List.getElem?_cons_zero, Option.some.injEq] at hu; rw [← hu]; simpa using hc0
        | succ j => rw [List.getElem?_cons_succ] at hu; rw [show off + q * 20 + (j + 1) = off + q * 20 + 1 + j from by omega]; exact hcell j u hu
      have hgr : g < wr.heap.size := by omega
      have hq1 : (q : Int) < (l.length : Int) := by omega
      have hq0 : (0 : Int) ≤ q := by omega
      have hM : ∀ W, Below wr.heap.size wr W → Calls Tryz.prog 15 #[.agg #[.int .i64 k', .string key', .string dst', .int .i64 n', .bool had', .int .i64 k1', .bool b1', .int .i64 n1', .string t1', .slice la1' l1'.length lc1', .slice oa1' o1'.length oc1', .bool has', .int .i64 k2', .bool b2', .int .i64 n2', .string t2', .slice la2' l2'.length lc2', .slice oa2' o2'.length oc2', .slice a' l'.length c']] W fun e w' => e = .returned (.int .i64 (mutMay (Mut.mk k' key' dst' n' had' (.mk k1' b1' n1' t1' l1' o1') has' (.mk k2' b2' n2' t2' l2' o2') l'))) ∧ Below W.heap.size W w' := fun W hW => mutMay_calls _ _ W (HT.out.below (hbr.out.trans (hW.mono hz))) ((hcs.below (hW.mono hz)).more (Nat.le_trans hz hW.size)) (by omega) hin'
      generalize mutMay (Mut.mk k' key' dst' n' had' (.mk k1' b1' n1' t1' l1' o1') has' (.mk k2' b2' n2' t2' l2' o2') l') = Y at hM hXd
      have hwx := alloc_below wr (.cells #[.int .u64 id, .int .i64 k', .string key', .string dst', .int .i64 n', .bool had', .int .i64 k1', .bool b1', .int .i64 n1', .string t1', .slice la1' l1'.length lc1', .slice oa1' o1'.length oc1', .bool has', .int .i64 k2', .bool b2', .int .i64 n2', .string t2', .slice la2' l2'.length lc2', .slice oa2' o2'.length oc2', .slice a' l'.length c'] 50)
      have hbx := hbr.out.trans (hwx.mono hz)
      by_cases hi : id ≤ 0 ∨ 4611686018427387903 < id
      · rw [if_pos hi] at hXd
        have hC2 := fun W => isNumber_calls id false W (by simp; omega)
        have HM := Lib.hid hM
        have HXd := Lib.hid hXd
        have HC2 := Lib.hid hC2
        have Hbx := Lib.hid hbx
        clear hM hXd hC2 hbx
        clear hcs hcell hmem hbm hp hX hin' hwx
        go_upto_region 7 with (fail)
        iterate 5 go_step
        refine wp_load_mid 50 (.tmp 19) rfl g (off + q * 20) rfl [.int .u64 id, .int .i64 k', .string key', .string dst', .int .i64 n', .bool had', .int .i64 k1', .bool b1', .int .i64 n1', .string t1', .slice la1' l1'.length lc1', .slice oa1' o1'.length oc1', .bool has', .int .i64 k2', .bool b2', .int .i64 n2', .string t2', .slice la2' l2'.length lc2', .slice oa2' o2'.length oc2', .slice a' l'.length c'] _ hrange Tryz.underlying50 rfl (by kernel_rfl) ?_
        iterate 5 go_step
        refine wp_store_new 50 (.tmp 4) (.tmp 20) rfl #[.int .u64 id, .int .i64 k', .string key', .string dst', .int .i64 n', .bool had', .int .i64 k1', .bool b1', .int .i64 n1', .string t1', .slice la1' l1'.length lc1', .slice oa1' o1'.length oc1', .bool has', .int .i64 k2', .bool b2', .int .i64 n2', .string t2', .slice la2' l2'.length lc2', .slice oa2' o2'.length oc2', .slice a' l'.length c'] rfl rfl rfl (by kernel_rfl) (by simp [Value.oneCell']) ?_
        go_wp2_with (fail)
        with_reducible refine (HC2.out _).mono ?_
        rintro e w2 ⟨rfl, rfl⟩
        go_wp2
        go_ret
        exact ⟨by rw [← HXd.out]; rfl, Hbx.out⟩
      · rw [if_neg hi] at hXd
        have hC2 := fun W => isNumber_calls id true W (by simp; omega)
        have hMx := hM _ hwx
        have hxn := Blk.new wr 50 #[.int .u64 id, .int .i64 k', .string key', .string dst', .int .i64 n', .bool had', .int .i64 k1', .bool b1', .int .i64 n1', .string t1', .slice la1' l1'.length lc1', .slice oa1' o1'.length oc1', .bool has', .int .i64 k2', .bool b2', .int .i64 n2', .string t2', .slice la2' l2'.length lc2', .slice oa2' o2'.length oc2', .slice a' l'.length c']
        have HM := Lib.hid hM
        have HC2 := Lib.hid hC2
        have Hbx := Lib.hid hbx
        have HMx := Lib.hid hMx
        have Hxn := Lib.hid hxn
        clear hM hC2 hbx hMx hxn
        clear hcs hcell hmem hbm hp hX hin' hwx
        go_upto_region 7 with (fail)
        iterate 5 go_step
        refine wp_load_mid 50 (.tmp 19) rfl g (off + q * 20) rfl [.int .u64 id, .int .i64 k', .string key', .string dst', .int .i64 n', .bool had', .int .i64 k1', .bool b1', .int .i64 n1', .string t1', .slice la1' l1'.length lc1', .slice oa1' o1'.length oc1', .bool has', .int .i64 k2', .bool b2', .int .i64 n2', .string t2', .slice la2' l2'.length lc2', .slice oa2' o2'.length oc2', .slice a' l'.length c'] _ hrange Tryz.underlying50 rfl (by kernel_rfl) ?_
        iterate 5 go_step
        refine wp_store_new 50 (.tmp 4) (.tmp 20) rfl #[.int .u64 id, .int .i64 k', .string key', .string dst', .int .i64 n', .bool had', .int .i64 k1', .bool b1', .int .i64 n1', .string t1', .slice la1' l1'.length lc1', .slice oa1' o1'.length oc1', .bool has', .int .i64 k2', .bool b2', .int .i64 n2', .string t2', .slice la2' l2'.length lc2', .slice oa2' o2'.length oc2', .slice a' l'.length c'] rfl rfl rfl (by kernel_rfl) (by simp [Value.oneCell']) ?_
        go_wp2_with (fail)
        with_reducible refine (HC2.out _).mono ?_
        rintro e w2 ⟨rfl, rfl⟩
        go_upto_region 10 with (fail)
        iterate 5 go_step
        refine wp_load_mid 48 (.tmp 25) rfl wr.heap.size 1 rfl [.int .i64 k', .string key', .string dst', .int .i64 n', .bool had', .int .i64 k1', .bool b1', .int .i64 n1', .string t1', .slice la1' l1'.length lc1', .slice oa1' o1'.length oc1', .bool has', .int .i64 k2', .bool b2', .int .i64 n2', .string t2', .slice la2' l2'.length lc2', .slice oa2' o2'.length oc2', .slice a' l'.length c'] _ (blk_range1 Hxn.out) Tryz.underlying48 rfl (by kernel_rfl) ?_
        go_wp2_with (fail)
        with_reducible refine (HMx.out).mono ?_
        rintro e w3 ⟨rfl, hb3⟩
        have hbf := Hbx.out.trans (hb3.mono Hbx.out.size)
        by_cases hY : Y = 0
        · subst hY
          rw [if_pos rfl] at hXd
          have HXd := Lib.hid hXd
          have Hbf := Lib.hid hbf
          clear hXd hbf
          clear hb3
          go_wp2
          go_roundw
          case rel => exact ⟨q + 1, by go_num, by omega, HXd, Hbf⟩
          case measure => simp only [intOf]; omega
        · rw [if_neg hY] at hXd
          have tY : (Y != 0) = true := by simpa using hY
          have HXd := Lib.hid hXd
          have Hbf := Lib.hid hbf
          clear hXd hbf
          clear hb3
          go_wp2
          go_ret
          exact ⟨by rw [← HXd.out]; rfl, Hbf.out⟩
    · obtain rfl : q = l.length := by omega
      have hE := hX.out
      rw [List.drop_length] at hE
      have hE' : X = 0 := hE.symm
      subst hE'
      clear hX hE
      go_wp2
      go_ret
      exact ⟨rfl, hbr.out⟩
end Go.Proofs.YtkoliaodkojghaaGreatDoor

/- The reference's word why a push may not be. Condition: a bulk of at most 10^8. -/
namespace Go.Proofs.YtkoliaodkojghaaGreatDoor
open Go.RowKit

set_option maxRecDepth 100000 in
set_option maxHeartbeats 8000000 in
theorem rpushMay_calls (c : Int) (l : List Num) (a : Option Addr) (n cc : Nat) (w : World) (hc : 0 ≤ c) (hT : Tabs w) (h : Holds w w.heap.size (.row 20 (dNs l)) [.slice a n cc]) (hb : bulkN l ≤ 100000000) (hin : inN l) :
    Calls Tryz.prog 7 #[.agg #[.int .u64 c, .slice a n cc]] w fun e w' => e = .returned (.int .i64 (mayPush c l)) ∧ Below w.heap.size w w' := by
  have hn := h.row_len
  rw [dNs_len] at hn
  subst hn
  have hlq := bulkN_len l
  have hE : mayPush c l = mayPush c l := rfl
  conv at hE => rhs; unfold mayPush
  generalize mayPush c l = X at hE ⊢
  by_cases h0 : c = 0
  · subst h0
    rw [if_pos (by omega)] at hE
    have HE := Lib.hid hE
    clear hE
    clear h hT
    go_enter Tryz.func7, Tryz.ntmps7
    go_wp2
    go_ret
    exact ⟨by rw [HE.out]; rfl, alloc_below _ _⟩
  have t0 : (c == 0) = false := by simpa using h0
  by_cases h1 : 4611686018427387903 < c
  · rw [if_pos (by omega)] at hE
    have HE := Lib.hid hE
    clear hE
    clear h hT h0
    go_enter Tryz.func7, Tryz.ntmps7
    go_wp2
    go_ret
    exact ⟨by rw [HE.out]; rfl, alloc_below _ _⟩
  rw [if_neg (by omega)] at hE
  have t1 : c ≤ 4611686018427387903 := by omega
  by_cases h2 : 64 < l.length
  · rw [if_pos h2] at hE
    have t2 : (64 : Int) < (l.length : Int) := by omega
    have HE := Lib.hid hE
    clear hE
    clear h hT h0 h1
    go_enter Tryz.func7, Tryz.ntmps7
    go_wp2
    go_ret
    exact ⟨by rw [HE.out]; rfl, alloc_below _ _⟩
  rw [if_neg h2] at hE
  have t2 : (l.length : Int) ≤ 64 := by omega
  obtain ⟨wi, hwi⟩ : ∃ wi, w.alloc (.cells #[.int .u64 c, .slice a l.length cc] 25) = wi := ⟨_, rfl⟩
  have hbi : Below w.heap.size w wi := hwi ▸ alloc_below _ _
  have hxb : Blk wi w.heap.size 25 #[.int .u64 c, .slice a l.length cc] := hwi ▸ Blk.new _ _ _
  have hI0 : Hid (Below wi.heap.size wi wi) := Lib.hid (Below.refl _ _)
  have hX0 : Hid (mayNs (l.drop 0) = X) := Lib.hid (by rw [List.drop_zero]; exact hE.symm)
  have y0 := hxb.cell 0
  have y1 := hxb.cell 1
  have hgb := hxb.lt
  have H := Lib.hid h
  have HT := Lib.hid hT
  have Hin := Lib.hid hin
  have Hbi := Lib.hid hbi
  have Hxb := Lib.hid hxb
  clear h hT hin hbi hxb
  clear hE h0 h1
  go_enter Tryz.func7, Tryz.ntmps7
  go_wp2_with (fail)
  clear hwi
  go_loopw [3] (fun i wr => ∃ q : Nat, i = .int .i64 q ∧ q ≤ l.length ∧ Hid (mayNs (l.drop q) = X) ∧ Hid (Below wi.heap.size wi wr)) (fun i _ => l.length - (intOf i).toNat)
  case atStart => exact ⟨0, rfl, Nat.zero_le _, hX0, hI0⟩
  case round =>
    obtain ⟨q, rfl, hq, hX, hbr⟩ := hrel
    clear hX0 hI0 y0 y1
    have hbw := Hbi.out.trans (hbr.out.mono Hbi.out.size)
    have y1 := (Hxb.out.below hbr.out Hxb.out.lt).cell 1
    have hgr0 := Nat.lt_of_lt_of_le Hxb.out.lt hbr.out.size
    by_cases hlt : q < l.length
    · obtain ⟨p, hp⟩ : ∃ p, l[q]? = some p := ⟨_, List.getElem?_eq_getElem hlt⟩
      have hmem := List.mem_of_getElem? hp
      have hbm := bulkN_mem hmem
      obtain ⟨hid0, hin'⟩ := Hin.out p hmem
      have hXd := hX.out
      rw [mayNs_drop hp] at hXd
      obtain ⟨id, k', key', dst', n', had', ⟨k1', b1', n1', t1', l1', o1'⟩, has', ⟨k2', b2', n2', t2', l2', o2'⟩, l'⟩ := p
      have hz := hbw.size
      obtain ⟨g, off, rfl, hg, cs', hcs, _, hc0, hcell⟩ := num_at (H.out.below hbw) hp
      obtain ⟨la1', lc1', oa1', oc1', la2', lc2', oa2', oc2', a', c', rfl, _, _, _⟩ := mut_cells hcs
      simp only at hXd hbm hin' hc0 hid0
      have hrange : wr.rangeAt g (off + q * 20 + 1) [.int .i64 k', .string key', .string dst', .int .i64 n', .bool had', .int .i64 k1', .bool b1', .int .i64 n1', .string t1', .slice la1' l1'.length lc1', .slice oa1' o1'.length oc1', .bool has', .int .i64 k2', .bool b2', .int .i64 n2', .string t2', .slice la2' l2'.length lc2', .slice oa2' o2'.length oc2', .slice a' l'.length c'] := hcell
      have hgr : g < wr.heap.size := by omega
      have hq1 : (q : Int) < (l.length : Int) := by omega
      have hq0 : (0 : Int) ≤ q := by omega
      have hM : Calls Tryz.prog 16 #[.agg #[.int .i64 k', .string key', .string dst', .int .i64 n', .bool had', .int .i64 k1', .bool b1', .int .i64 n1', .string t1', .slice la1' l1'.length lc1', .slice oa1' o1'.length oc1', .bool has', .int .i64 k2', .bool b2', .int .i64 n2', .string t2', .slice la2' l2'.length lc2', .slice oa2' o2'.length oc2', .slice a' l'.length c']] wr fun e w' => e = .returned (.int .i64 (mutMay (Mut.mk k' key' dst' n' had' (.mk k1' b1' n1' t1' l1' o1') has' (.mk k2' b2' n2' t2' l2' o2') l'))) ∧ Below wr.heap.size wr w' := rmutMay_calls _ _ wr (HT.out.below hbw) (hcs.more hz) (by omega) hin'
      generalize mutMay (Mut.mk k' key' dst' n' had' (.mk k1' b1' n1' t1' l1' o1') has' (.mk k2' b2' n2' t2' l2' o2') l') = Y at hM hXd
      by_cases i0 : id = 0
      · subst i0
        rw [if_pos (by omega)] at hXd
        have HXd := Lib.hid hXd
        have Hbw := Lib.hid hbw
        clear hXd hbw
        clear hcs hcell hmem hbm hp hX hin' hM
        go_wp2
        go_ret
        exact ⟨by rw [← HXd.out]; rfl, Hbw.out⟩
      have ti0 : (id == 0) = false := by simpa using i0
      by_cases i1 : 4611686018427387903 < id
      · rw [if_pos (by omega)] at hXd
        have HXd := Lib.hid hXd
        have Hbw := Lib.hid hbw
        clear hXd hbw
        clear hcs hcell hmem hbm hp hX hin' hM i0
        go_wp2
        go_ret
        exact ⟨by rw [← HXd.out]; rfl, Hbw.out⟩
      rw [if_neg (by omega)] at hXd
      have ti1 : id ≤ 4611686018427387903 := by omega
      have HM := Lib.hid hM
      have Hbw := Lib.hid hbw
      clear hM hbw
      clear hcs hcell hmem hbm hp hX hin' i0 i1
      go_upto_region 10 with (fail)
      iterate 17 go_step
      refine wp_load_mid 48 (.tmp 44) rfl g (off + q * 20 + 1) rfl [.int .i64 k', .string key', .string dst', .int .i64 n', .bool had', .int .i64 k1', .bool b1', .int .i64 n1', .string t1', .slice la1' l1'.length lc1', .slice oa1' o1'.length oc1', .bool has', .int .i64 k2', .bool b2', .int .i64 n2', .string t2', .slice la2' l2'.length lc2', .slice oa2' o2'.length oc2', .slice a' l'.length c'] _ hrange Tryz.underlying48 rfl (by kernel_rfl) ?_
      go_wp2_with (fail)
      with_reducible refine (HM.out).mono ?_
      rintro e w3 ⟨rfl, hb3⟩
      have hbf := hbr.out.trans (hb3.mono hbr.out.size)
      by_cases hY : Y = 0
      · subst hY
        rw [if_pos rfl] at hXd
        have HXd := Lib.hid hXd
        have Hbf := Lib.hid hbf
        clear hXd hbf
        clear hb3
        go_wp2
        go_roundw
        case rel => exact ⟨q + 1, by go_num, by omega, HXd, Hbf⟩
        case measure => simp only [intOf]; omega
      · rw [if_neg hY] at hXd
        have tY : (Y != 0) = true := by simpa using hY
        have HXd := Lib.hid hXd
        have Hbf := Lib.hid hbf
        clear hXd hbf
        clear hb3
        go_wp2
        go_ret
        exact ⟨by rw [← HXd.out]; rfl, Hbi.out.trans (Hbf.out.mono Hbi.out.size)⟩
    · obtain rfl : q = l.length := by omega
      have hE := hX.out
      rw [List.drop_length] at hE
      have hE' : X = 0 := hE.symm
      subst hE'
      have Hbw := Lib.hid hbw
      clear hbw
      clear hX hE
      go_wp2
      go_ret
      exact ⟨rfl, Hbw.out⟩
end Go.Proofs.YtkoliaodkojghaaGreatDoor
