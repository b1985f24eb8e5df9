/- Why a value may not be: the reference's function, of every value. Condition: a bulk of at most 10^9. -/
import Derived.Test.YtjmkafbdmppfaaaDoorProg
import Derived.Test.YtjmkafbdmppfaaaDoorMayR2
namespace Go.Proofs.YtjmkafbdmppfaaaDoor
open Go.RowKit

set_option maxHeartbeats 2000000 in
theorem mayR_calls : ∀ (v : Val), MayRC v := by
  refine Val.ind ?_
  intro k b n t l o ihl iho cs d w hV hb h0 h65
  simp only [HoldsV] at hV
  obtain ⟨la, lc, oa, oc, rfl, hL, hO⟩ := hV
  simp only [Val.bulk] at hb
  by_cases hodd : oddB k b n t l.length o.length = true
  · have hm : mayV (.mk k b n t l o) d = 9 := by simp only [mayV, hodd, if_true]
    rw [hm]
    clear hm ihl iho hL hO
    go_enter Tryd.func28, Tryd.ntmps28
    go_wp2_with (go_at_call 57; refine (bare_calls2 hodd _).mono ?_; rintro e w' ⟨rfl, hb1⟩)
    go_ret
    exact ⟨rfl, ((Below.refl _ _).alloc (Nat.le_refl _) _).trans (hb1.mono (by simp))⟩
  have hodd' : oddB k b n t l.length o.length = false := by simpa using hodd
  clear hodd
  by_cases h64 : 64 < d
  · have hm : mayV (.mk k b n t l o) d = 5 := by simp only [mayV, hodd', Bool.false_eq_true, if_false, h64, if_true]
    rw [hm]
    clear hm ihl iho hL hO
    go_enter Tryd.func28, Tryd.ntmps28
    go_wp2_with (go_at_call 57; refine (bare_calls2 hodd' _).mono ?_; rintro e w' ⟨rfl, hb1⟩)
    go_ret
    exact ⟨rfl, ((Below.refl _ _).alloc (Nat.le_refl _) _).trans (hb1.mono (by simp))⟩
  by_cases hval : validB t = true
  · obtain ⟨hk, ht, hl, ho⟩ := odd_parts hodd'
    by_cases hl0 : l = []
    · subst hl0
      have hm : mayV (.mk k b n t [] o) d = mayO o none (d + 1) := by
        simp only [mayV, hodd', Bool.false_eq_true, if_false, h64, hval, if_true, mayL]
      rw [hm]
      rcases hO with rfl | ⟨g, off, rfl, hg, hO⟩
      · exact mayR_obj k b n t [] la oa lc oc d w 0 0 (.inl rfl) (by simp only [bulkO] at hb ⊢; omega) h0 (by omega) iho hodd' hval
      · exact mayR_obj k b n t o la _ lc oc d w g off (.inr ⟨rfl, hg, hO⟩) (by omega) h0 (by omega) iho hodd' hval
    · have hl1 : 0 < l.length := List.length_pos_iff.2 hl0
      obtain rfl : o = [] := List.eq_nil_of_length_eq_zero (by omega)
      have hm : mayV (.mk k b n t l []) d = mayL l (d + 1) := by
        simp only [mayV, hodd', Bool.false_eq_true, if_false, h64, hval, if_true, mayO]
        split <;> simp_all
      rw [hm]
      rcases hL with rfl | ⟨g, off, rfl, hg, hL⟩
      · exact absurd rfl hl0
      · exact mayR_list k b n t l _ oa lc oc d w g off (.inr ⟨rfl, hg, hL⟩) (by omega) h0 (by omega) ihl hodd' hval
  · have hval' : validB t = false := by simpa using hval
    have hm : mayV (.mk k b n t l o) d = 3 := by simp only [mayV, hodd', Bool.false_eq_true, if_false, h64, hval']
    rw [hm]
    clear hm ihl iho hL hO hval
    go_enter Tryd.func28, Tryd.ntmps28
    go_wp2_with (first | (go_at_call 57; refine (bare_calls2 hodd' _).mono ?_; rintro e w1 ⟨rfl, hb1⟩; obtain ⟨hc1, hf1⟩ := bcell hb1; have hz1 := hb1.size; simp only [World.size_alloc] at hz1; have hbw1 : Below w.heap.size w w1 := ((Below.refl _ _).alloc (Nat.le_refl _) _).trans (hb1.mono (by simp))) | (go_at_call 17; refine (RValid_calls2 hval' _ (by omega)).mono ?_; rintro e w2 ⟨rfl, rfl⟩))
    go_ret
    exact ⟨rfl, hbw1⟩

/-- commonplaceref02.May -/
theorem RMay_calls (v : Val) (cs : List Value) (w : World) (hV : HoldsV w w.heap.size v cs) (hb : v.bulk ≤ 1000000000) :
    Calls Tryd.prog 13 #[.agg cs.toArray] w fun e w' => e = .returned (.int .i64 (mayV v 1)) ∧ Below w.heap.size w w' := by
  have hV' := hV
  obtain ⟨k, b, n, t, l, o⟩ := v
  simp only [HoldsV] at hV'
  obtain ⟨la, lc, oa, oc, rfl, _, _⟩ := hV'
  have hc := mayR_calls _ _ 1 (w.alloc (.cells #[.int .i64 k, .bool b, .int .i64 n, .string t, .slice la l.length lc, .slice oa o.length oc] 26)) (HoldsV.more (by simp) _ _ (hV.below ((Below.refl _ _).alloc (Nat.le_refl _) _))) hb (by omega) (by omega)
  generalize mayV _ _ = m at hc ⊢
  have H := Lib.hid hc
  clear hc hV
  go_enter Tryd.func13, Tryd.ntmps13
  go_wp2_with (go_at_call 28; refine (H.out).mono ?_; rintro e w' ⟨rfl, hb1⟩)
  go_ret
  exact ⟨rfl, ((Below.refl _ _).alloc (Nat.le_refl _) _).trans (hb1.mono (by simp))⟩

end Go.Proofs.YtjmkafbdmppfaaaDoor
