/- Parts, joined: The law ParseExact: it answers true. Condition: a text of at most 1.6*10^7 bytes. -/
import Derived.Test.YtgjiienipeoajaaGreatDoorProg
import Derived.Test.YtgjiienipeoajaaGreatDoorKPrs41
import Derived.Test.YtgjiienipeoajaaGreatDoorKPrs44
/- The law ParseExact: it answers true. Condition: a text of at most 1.6*10^7 bytes. -/
namespace Go.Proofs.YtgjiienipeoajaaGreatDoor
open Go Go.RowKit

set_option maxRecDepth 100000 in
set_option maxHeartbeats 8000000 in
theorem ParseExact_law (s : ByteArray) (w : World) (hT : Tabs w) (hN : NumT w) (hs : s.size ≤ 16000000) :
    Calls Tryz.prog 5 #[.string s] w fun e w' => e = .returned (.bool true) ∧ Below w.heap.size w w' := by
  have hP := (exact_calls s w hT hN (by omega)).mono fun _ _ h => ExOut.val h
  have hR := fun W => (rexact_calls copy_calls s W hs).mono fun _ _ h => ExOut.val h
  have hbk : (exactL s.data.toList).val.bulk ≤ 100000000 := by have := exactL_bulk s.data.toList; rw [size_toList] at this; omega
  have hK := fun W hW => known4_calls W (hT.below (w' := W) hW) (hN.below (w' := W) hW)
  generalize (exactL s.data.toList).err = c at hP hR
  generalize (exactL s.data.toList).val = v at hP hR hbk
  have hE := equal_same v hbk
  obtain ⟨k1, b1, n1, t1, l1, o1⟩ := v
  have ec : (c == c) = true := by simp
  clear hbk
  have HP := Lib.hid hP
  have HR := Lib.hid hR
  have HE := Lib.hid hE
  have HK := Lib.hid hK
  clear hP hR hE hK
  go_enter Tryz.func5, Tryz.ntmps5
  go_wp2_with (fail)
  with_reducible refine (HP.out).mono ?_
  rintro e w1 ⟨cs, rfl, hb1, hf1⟩
  obtain ⟨la1, lc1, oa1, oc1, rfl⟩ := six_now hf1
  have hbw := hb1.alloc hb1.size (.cells #[.int .i64 k1, .bool b1, .int .i64 n1, .string t1, .slice la1 l1.length lc1, .slice oa1 o1.length oc1] 26)
  have hfw := hf1.later (alloc_below w1 (.cells #[.int .i64 k1, .bool b1, .int .i64 n1, .string t1, .slice la1 l1.length lc1, .slice oa1 o1.length oc1] 26))
  have hxw := Blk.new w1 26 #[.int .i64 k1, .bool b1, .int .i64 n1, .string t1, .slice la1 l1.length lc1, .slice oa1 o1.length oc1]
  have Hbw := Lib.hid hbw
  have Hfw := Lib.hid hfw
  have Hxw := Lib.hid hxw
  clear hbw hfw hxw
  clear hb1 hf1
  go_wp2_with (fail)
  generalize w1.alloc (.cells #[.int .i64 k1, .bool b1, .int .i64 n1, .string t1, .slice la1 l1.length lc1, .slice oa1 o1.length oc1] 26) = W1 at Hbw Hfw Hxw ⊢
  generalize w1.heap.size = g1 at Hxw ⊢
  with_reducible refine (HR.out _).mono ?_
  rintro e w2 ⟨cs, rfl, hb2, hf2⟩
  obtain ⟨la2, lc2, oa2, oc2, rfl⟩ := six_now hf2
  have hbz := (Hbw.out.trans (hb2.mono Hbw.out.size)).alloc (Nat.le_trans Hbw.out.size hb2.size) (.cells #[.int .i64 k1, .bool b1, .int .i64 n1, .string t1, .slice la2 l1.length lc2, .slice oa2 o1.length oc2] 26)
  have hx2 := Hxw.out.below hb2 Hxw.out.lt
  have hfz := (Hfw.out.later hb2).later (alloc_below w2 (.cells #[.int .i64 k1, .bool b1, .int .i64 n1, .string t1, .slice la2 l1.length lc2, .slice oa2 o1.length oc2] 26))
  have hfy := hf2.later (alloc_below w2 (.cells #[.int .i64 k1, .bool b1, .int .i64 n1, .string t1, .slice la2 l1.length lc2, .slice oa2 o1.length oc2] 26))
  have hEE := HE.out _ _ _ (holdsV_of _ _ hfz.now) (holdsV_of _ _ hfy.now)
  obtain ⟨x0, x1, x2, x3, x4, x5⟩ := vcell hx2
  have hlx := hx2.lt
  have Hbz := Lib.hid hbz
  have HEE := Lib.hid hEE
  clear hbz hEE
  clear hb2 hf2 hfz hfy hx2
  go_wp2_with (fail)
  with_reducible refine (HEE.out).mono ?_
  rintro e w3 ⟨rfl, hb3⟩
  have HB3 := Lib.hid (Hbz.out.trans (hb3.mono Hbz.out.size))
  clear hb3
  go_wp2_with (fail)
  with_reducible refine (HK.out _ HB3.out).mono ?_
  rintro e w4 ⟨rfl, hb4⟩
  have HB4 := Lib.hid (HB3.out.trans (hb4.mono HB3.out.size))
  clear hb4
  go_wp2
  go_ret
  exact ⟨rfl, HB4.out⟩
end Go.Proofs.YtgjiienipeoajaaGreatDoor
