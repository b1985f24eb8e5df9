/- The law EncodeInts, walked: it returns true. No condition. -/
import Derived.Test.YtjmkafbdmppfaaaDoorProg
import Derived.Test.YtjmkafbdmppfaaaDoorKnown
namespace Go.Proofs.YtjmkafbdmppfaaaDoor
open Go.RowKit

theorem int_text (n : Int) : textV (.mk 3 false n nob [] []) = Lib.itoa n := by simp [textV]
theorem int_may (n : Int) : mayV (.mk 3 false n nob [] []) 1 = 0 := by
  have ho : oddB 3 false n nob 0 0 = false := by unfold oddB; simp [nob]; try decide
  have := mayV_plain (k := 3) (b := false) (n := n) (t := nob) (d := 1) ho (by decide)
  rw [this]
  decide

theorem Text_int (n : Int) (h1 : -9223372036854775808 ≤ n) (h2 : n ≤ 9223372036854775807) (w : World) (hT : Tabs w) :
    Calls Tryd.prog 11 #[.agg #[.int .i64 3, .bool false, .int .i64 n, .string ⟨#[]⟩, .slice none 0 0, .slice none 0 0]] w fun e w' => e = .returned (.tuple #[.string ⟨(Lib.itoa n).toArray⟩, .int .i64 0]) ∧ Below w.heap.size w w' := by
  have := Text_calls (.mk 3 false n nob [] []) _ w hT (plain_holds w 3 false n nob none none 0 0) (by simp [Val.bulk, bulkL, bulkO, nob]; try decide) (by simp [inV, inL, inO, h1, h2])
  unfold textS at this
  rw [int_may, if_pos rfl, int_text] at this
  exact this

set_option maxRecDepth 100000 in
set_option maxHeartbeats 400000 in
theorem Ints_law (n : Int) (h1 : -9223372036854775808 ≤ n) (h2 : n ≤ 9223372036854775807) (w : World) (hT : Tabs w) :
    Calls Tryd.prog 8 #[.int .i64 n] w fun e w' => e = .returned (.bool true) ∧ Below w.heap.size w w' := by
  have H1 := Lib.hid (Text_int n h1 h2 w hT)
  have HT := Lib.hid hT
  clear hT
  go_enter Tryd.func8, Tryd.ntmps8
  go_wp2_with (fail)
  with_reducible refine H1.out.mono ?_
  clear H1
  rintro e w1 ⟨rfl, hb1⟩
  have hT1 := Lib.hid (HT.out.below hb1)
  clear HT
  go_wp2_with (fail)
  have X := Tryd.strconv_FormatInt_10 n h1 h2 w1 (by have := hT1.out; exact this.2.2)
  with_reducible refine X.mono ?_
  clear X
  rintro e w2 ⟨rfl, j, os, hj⟩
  have hb2 : Below w1.heap.size w1 w2 := hj ▸ grow_below _ _ _
  clear hj
  have hT2 := Lib.hid (hT1.out.below hb2)
  clear hT1
  go_wp2_with (fail)
  with_reducible refine (known_calls w2 hT2.out).mono ?_
  rintro e w3 ⟨rfl, hb3⟩
  clear hT2
  go_wp2
  go_ret
  exact ⟨rfl, hb1.trans ((hb2.trans (hb3.mono hb2.size)).mono hb1.size)⟩

end Go.Proofs.YtjmkafbdmppfaaaDoor
