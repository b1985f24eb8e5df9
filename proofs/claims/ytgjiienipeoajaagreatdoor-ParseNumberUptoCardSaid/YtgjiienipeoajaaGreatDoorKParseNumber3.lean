/- Parts, joined: The law ParseNumber: it answers true. Condition: a number of 64 bits. -/
import Derived.Test.YtgjiienipeoajaaGreatDoorProg
import Derived.Test.YtgjiienipeoajaaGreatDoorKPrs36
import Derived.Test.YtgjiienipeoajaaGreatDoorKPrs44
import Derived.Test.YtgjiienipeoajaaGreatDoorKParseNumber2
/- The law ParseNumber: it answers true. Condition: a number of 64 bits. -/
namespace Go.Proofs.YtgjiienipeoajaaGreatDoor
open Go Go.RowKit

theorem past_nil (s : List UInt8) : past s s.length = s.length := past_end (Nat.le_refl _)
theorem parse_num {s : List UInt8} {c : UInt8} (h0 : s[0]? = some c) (hc : isDig c = true ∨ c = 45) : parseL s = match numberAt s 0 with
    | .bad e q => .bad e q
    | .ok n q => if past s q < s.length then .bad 4 (past s q) else .ok (intV n) (past s q) := by
  unfold parseL
  rw [value_num (f := 4 * s.length + 3) (by omega) h0 hc]
  cases numberAt s 0 <;> rfl
theorem decS_first (u : Nat) : ∃ c r, decS u = c :: r ∧ isDig c = true := by
  obtain ⟨h1, h2, _⟩ := decS_dig u
  cases h : decS u with
  | nil => exact absurd h h2
  | cons c r => exact ⟨c, r, rfl, h1 c (by rw [h]; exact List.mem_cons_self)⟩
theorem pn_zero (u : Nat) : parseL (48 :: decS u) = .bad 4 1 := by
  obtain ⟨h1, h2, _⟩ := decS_dig u
  have hl : 1 ≤ (decS u).length := by
    cases h : decS u with
    | nil => exact absurd h h2
    | cons c r => simp
  rw [parse_num (c := 48) rfl (.inl (by decide))]
  have hd := (dig_end (s := 48 :: decS u) (a := 48 :: decS u) (x := []) (f := 0) (by simp) (fun c hc => by
    rcases List.mem_cons.1 hc with rfl | hc
    · decide
    · exact h1 c hc) StopD.nil).1
  have e : numberAt (48 :: decS u) 0 = .bad 4 1 := by
    unfold numberAt
    rw [if_neg (by simp)]
    unfold numFrom
    rw [hd, if_neg (by simp), if_pos ⟨rfl, by simp; omega⟩]
  rw [e]
theorem pn_pos (u : Nat) : parseL (decS u) = if 9223372036854775807 < u then .bad 7 0 else .ok (intV (u : Int)) (decS u).length := by
  obtain ⟨h1, h2, h3, h4⟩ := decS_dig u
  obtain ⟨c, r, hc, hd⟩ := decS_first u
  have hn := numberAt_pos (s := decS u) (a := decS u) (x := []) (p := 0) (by simp) h1 StopD.nil h2 h3
  rw [parse_num (c := c) (by rw [hc]; rfl) (.inl hd), hn, h4, Nat.zero_add]
  unfold numRes
  rw [if_neg (by decide)]
  by_cases hb : 9223372036854775807 < u
  · rw [if_pos hb, if_pos hb]
  · rw [if_neg hb, if_neg hb]
    simp only [past_nil, Nat.lt_irrefl, if_false]
theorem pn_neg (u : Nat) : parseL (45 :: decS u) = if u = 0 ∨ 9223372036854775808 < u then .bad 7 0 else .ok (intV (-(u : Int))) (45 :: decS u).length := by
  obtain ⟨h1, h2, h3, h4⟩ := decS_dig u
  have hn := numberAt_neg (s := 45 :: decS u) (a := decS u) (x := []) (p := 0) (by simp) h1 StopD.nil h2 h3
  have hl : 0 + 1 + (decS u).length = (45 :: decS u).length := by simp; omega
  rw [parse_num (c := 45) rfl (.inr rfl), hn, h4, hl]
  unfold numRes
  rw [if_pos rfl]
  by_cases hb : u = 0 ∨ 9223372036854775808 < u
  · rw [if_pos hb, if_pos hb]
  · rw [if_neg hb, if_neg hb]
    simp only [past_nil, Nat.lt_irrefl, if_false]
theorem decS_len {u : Nat} (h : u < 18446744073709551616) : (decS u).length ≤ 20 := by
  by_cases h0 : u = 0
  · subst h0; decide
  · rw [← decDigits_decS, Lib.decDigits_length]
    have := Lib.numDigits_eq u (by omega) h; split at this <;> omega
theorem holds_intV (w : World) (B : Nat) (x : Int) : HoldsV w B (intV x) [.int .i64 3, .bool false, .int .i64 x, .string ⟨#[]⟩, .slice none 0 0, .slice none 0 0] := by
  unfold intV
  simp only [HoldsV]
  exact ⟨none, 0, none, 0, rfl, by simp, by simp⟩
set_option maxRecDepth 100000 in
set_option maxHeartbeats 16000000 in
theorem ParseNumber_law (u : Nat) (minus : Bool) (w : World) (hT : Tabs w) (hN : NumT w) (hu : u < 18446744073709551616) :
    Calls Tryz.prog 7 #[.int .u64 u, .bool minus] w fun e w' => e = .returned (.bool true) ∧ Below w.heap.size w w' := by
  have hF := fmtuint_calls u hu w hT.2.2
  have hlen := decS_len hu
  have hs1 : (⟨(decS u).toArray⟩ : ByteArray).size = (decS u).length := rfl
  have hK : ∀ W, Below w.heap.size w W → Calls Tryz.prog 13 #[] W fun e w' => e = .returned (.bool true) ∧ Below W.heap.size W w' := fun W hW => known4_calls W (hT.below hW) (hN.below hW)
  have hz : ∀ W, Below w.heap.size w W → Calls Tryz.prog 17 #[.string ((⟨#[48]⟩ : ByteArray) ++ ⟨(decS u).toArray⟩), .int .i64 4, .int .i64 1] W fun e w' => e = .returned (.bool true) ∧ Below W.heap.size W w' := fun W hW =>
    falls_yes _ 4 1 W (hT.below hW) (hN.below hW) (by rw [app_size, show (⟨#[48]⟩ : ByteArray).size = 1 from rfl]; omega) (by rw [str_app]; exact pn_zero u)
  have hpos := pn_pos u
  have hneg := pn_neg u
  have hPF : ∀ (T : ByteArray), T.size ≤ 100 → parseL T.data.toList = .bad 7 0 → ∀ W, Below w.heap.size w W → Calls Tryz.prog 17 #[.string T, .int .i64 7, .int .i64 0] W fun e w' => e = .returned (.bool true) ∧ Below W.heap.size W w' := fun T h1 h2 W hW =>
    falls_yes T 7 0 W (hT.below hW) (hN.below hW) (by omega) h2
  have hPP : ∀ (T : ByteArray) (x : Int), T.size ≤ 100 → parseL T.data.toList = .ok (intV x) T.size → ∀ W, Below w.heap.size w W → Calls Tryz.prog 10 #[.string T] W (RefOut W (.ok (intV x) T.size)) := fun T x h1 h2 W hW => by
    have := parse_calls T W (hT.below hW) (hN.below hW) (by omega)
    rwa [h2] at this
  have hE : ∀ (x : Int) (cs cs' : List Value) (W : World), HoldsV W W.heap.size (intV x) cs → HoldsV W W.heap.size (intV x) cs' → Calls Tryz.prog 12 #[.agg cs.toArray, .agg cs'.toArray] W fun e w' => e = .returned (.bool true) ∧ Below W.heap.size W w' := fun x cs cs' W => equal_same _ (by unfold intV; simp [Val.bulk, bulkL, bulkO, emptyB, ByteArray.size]) cs cs' W
  have hsm : ((⟨#[45]⟩ : ByteArray) ++ ⟨(decS u).toArray⟩).size = (decS u).length + 1 := by rw [app_size, show (⟨#[45]⟩ : ByteArray).size = 1 from rfl]; omega
  have htm : ((⟨#[45]⟩ : ByteArray) ++ ⟨(decS u).toArray⟩).data.toList = 45 :: decS u := by rw [str_app]; rfl
  have htp : (⟨(decS u).toArray⟩ : ByteArray).data.toList = decS u := rfl
  generalize (⟨(decS u).toArray⟩ : ByteArray) = S at hF hs1 hz hsm htm htp
  have hSz : S.size ≤ 20 := by omega
  have HF := Lib.hid hF
  have HK := Lib.hid hK
  have Hz := Lib.hid hz
  have Hpos := Lib.hid hpos
  have Hneg := Lib.hid hneg
  have HPF := Lib.hid hPF
  have HPP := Lib.hid hPP
  have HE := Lib.hid hE
  have Hs1 := Lib.hid hs1
  have Hsm := Lib.hid hsm
  have Htm := Lib.hid htm
  have Htp := Lib.hid htp
  clear hF hK hz hpos hneg hPF hPP hE hs1 hsm htm htp
  go_enter Tryz.func7, Tryz.ntmps7
  go_wp2_with (fail)
  with_reducible refine (HF.out).mono ?_
  rintro e w1 ⟨rfl, hb1⟩
  have hz1 := Hz.out w1 hb1
  have Hb1 := Lib.hid hb1
  have Hz1 := Lib.hid hz1
  clear hb1 hz1
  go_wp2_with (fail)
  with_reducible refine (Hz1.out).mono ?_
  rintro e w2 ⟨rfl, hb2⟩
  have hB2 := Hb1.out.trans (hb2.mono Hb1.out.size)
  have HB2 := Lib.hid hB2
  clear hB2
  clear hb2 Hz1 Hb1 HF Hz
  cases minus with
  | false =>
    by_cases hb : 9223372036854775807 < u
    · have l1 : decide ((9223372036854775807 : Int) < (u : Int)) = true := decide_eq_true (by omega)
      have l2 : (9223372036854775807 : Int) < (u : Int) := by omega
      have hp := Hpos.out
      rw [if_pos hb] at hp
      have hfa := HPF.out S (by have := Hs1.out; omega) (by rw [Htp.out]; exact hp) w2 HB2.out
      clear hp hb
      have Hfa := Lib.hid hfa
      clear hfa
      go_wp2_with (fail)
      with_reducible refine (Hfa.out).mono ?_
      rintro e w4 ⟨rfl, hb4⟩
      have hB4 := HB2.out.trans (hb4.mono HB2.out.size)
      have hK4 := HK.out _ hB4
      clear hb4
      have HB4 := Lib.hid hB4
      have HK4 := Lib.hid hK4
      clear hB4 hK4
      go_wp2_with (fail)
      with_reducible refine (HK4.out).mono ?_
      rintro e w5 ⟨rfl, hb5⟩
      have hB5 := HB4.out.trans (hb5.mono HB4.out.size)
      clear hb5
      have HB5 := Lib.hid hB5
      clear hB5
      go_wp2
      go_ret
      exact ⟨rfl, HB5.out⟩
    · have l1 : decide ((9223372036854775807 : Int) < (u : Int)) = false := decide_eq_false (by omega)
      have l2 : ¬((9223372036854775807 : Int) < (u : Int)) := by omega
      have hp := Hpos.out
      rw [if_neg hb] at hp
      have hfa := HPP.out S (u : Int) (by have := Hs1.out; omega) (by rw [Htp.out, Hs1.out]; exact hp) w2 HB2.out
      have c1 : wrap64 (u : Int) = (u : Int) := by unfold wrap64; omega
      have c2 : IntKind.i64.wrap (u : Int) = (u : Int) := IntWalk.i64_in _ (by omega)
      have eS : ((S.size : Int) == (S.size : Int)) = true := by simp
      clear hp hb
      have Hfa := Lib.hid hfa
      clear hfa
      go_wp2_with (fail)
      with_reducible refine (Hfa.out).mono ?_
      rintro e w3 ⟨hb3, cs3, rfl, hf3⟩
      obtain ⟨la3, lc3, oa3, oc3, rfl⟩ : ∃ la lc oa oc, cs3 = [.int .i64 3, .bool false, .int .i64 (u : Int), .string ⟨#[]⟩, .slice la 0 lc, .slice oa 0 oc] := six_now (k := 3) (b := false) (n := (u : Int)) (t := ⟨#[]⟩) (l := []) (o := []) hf3
      have ha3 := alloc_below w3 (.cells #[.int .i64 3, .bool false, .int .i64 (u : Int), .string ⟨#[]⟩, .slice la3 0 lc3, .slice oa3 0 oc3] 26)
      have hB3 := (HB2.out.trans (hb3.mono HB2.out.size)).alloc (Nat.le_trans HB2.out.size hb3.size) (.cells #[.int .i64 3, .bool false, .int .i64 (u : Int), .string ⟨#[]⟩, .slice la3 0 lc3, .slice oa3 0 oc3] 26)
      have hE3 := HE.out (u : Int) _ _ _ (holdsV_of _ _ (hf3.later ha3).now) (holds_intV _ _ (u : Int))
      clear hb3 hf3 ha3
      have HB3 := Lib.hid hB3
      have HE3 := Lib.hid hE3
      clear hB3 hE3
      go_wp2_with (fail)
      with_reducible refine (HE3.out).mono ?_
      rintro e w4 ⟨rfl, hb4⟩
      have hB4 := HB3.out.trans (hb4.mono HB3.out.size)
      have hK4 := HK.out _ hB4
      clear hb4
      have HB4 := Lib.hid hB4
      have HK4 := Lib.hid hK4
      clear hB4 hK4
      go_wp2_with (fail)
      with_reducible refine (HK4.out).mono ?_
      rintro e w5 ⟨rfl, hb5⟩
      have hB5 := HB4.out.trans (hb5.mono HB4.out.size)
      clear hb5
      have HB5 := Lib.hid hB5
      clear hB5
      go_wp2
      go_ret
      exact ⟨rfl, HB5.out⟩
  | true =>
    by_cases hb : u = 0 ∨ 9223372036854775808 < u
    · have hp := Hneg.out
      rw [if_pos hb] at hp
      have hfa := HPF.out _ (by rw [Hsm.out]; omega) (by rw [Htm.out]; exact hp) w2 HB2.out
      clear hp
      rcases hb with hb | hb
      · subst hb
        have l1 : decide ((9223372036854775808 : Int) < ((0 : Nat) : Int)) = false := by decide
        have l0 : (((0 : Nat) : Int) == 0) = true := by decide
        have Hfa := Lib.hid hfa
        clear hfa
        go_wp2_with (fail)
        with_reducible refine (Hfa.out).mono ?_
        rintro e w4 ⟨rfl, hb4⟩
        have hB4 := HB2.out.trans (hb4.mono HB2.out.size)
        have hK4 := HK.out _ hB4
        clear hb4
        have HB4 := Lib.hid hB4
        have HK4 := Lib.hid hK4
        clear hB4 hK4
        go_wp2_with (fail)
        with_reducible refine (HK4.out).mono ?_
        rintro e w5 ⟨rfl, hb5⟩
        have hB5 := HB4.out.trans (hb5.mono HB4.out.size)
        clear hb5
        have HB5 := Lib.hid hB5
        clear hB5
        go_wp2
        go_ret
        exact ⟨rfl, HB5.out⟩
      · have l1 : decide ((9223372036854775808 : Int) < (u : Int)) = true := decide_eq_true (by omega)
        have l2 : (9223372036854775808 : Int) < (u : Int) := by omega
        have Hfa := Lib.hid hfa
        clear hfa
        go_wp2_with (fail)
        with_reducible refine (Hfa.out).mono ?_
        rintro e w4 ⟨rfl, hb4⟩
        have hB4 := HB2.out.trans (hb4.mono HB2.out.size)
        have hK4 := HK.out _ hB4
        clear hb4
        have HB4 := Lib.hid hB4
        have HK4 := Lib.hid hK4
        clear hB4 hK4
        go_wp2_with (fail)
        with_reducible refine (HK4.out).mono ?_
        rintro e w5 ⟨rfl, hb5⟩
        have hB5 := HB4.out.trans (hb5.mono HB4.out.size)
        clear hb5
        have HB5 := Lib.hid hB5
        clear hB5
        go_wp2
        go_ret
        exact ⟨rfl, HB5.out⟩
    · have hp := Hneg.out
      rw [if_neg hb] at hp
      have hfa := HPP.out _ (-(u : Int)) (by rw [Hsm.out]; omega) (by rw [Htm.out, Hsm.out]; simpa using hp) w2 HB2.out
      have l1 : decide ((9223372036854775808 : Int) < (u : Int)) = false := decide_eq_false (by omega)
      have l2 : ¬((9223372036854775808 : Int) < (u : Int)) := by omega
      have l0 : ((u : Int) == 0) = false := by rw [beq_eq_false_iff_ne]; omega
      obtain ⟨X, hX⟩ : ∃ X, wrap64 (u : Int) = X := ⟨_, rfl⟩
      have c2 : wrap64 (-X) = -(u : Int) := by rw [← hX]; unfold wrap64; omega
      have eS : ((((⟨#[45]⟩ : ByteArray) ++ S).size : Int) == (((⟨#[45]⟩ : ByteArray) ++ S).size : Int)) = true := by simp
      clear hp
      have Hfa := Lib.hid hfa
      clear hfa
      go_wp2_with (fail)
      simp only [hX, c2]
      generalize ((⟨#[45]⟩ : ByteArray) ++ S) = SM at Hfa eS ⊢
      with_reducible refine (Hfa.out).mono ?_
      rintro e w3 ⟨hb3, cs3, rfl, hf3⟩
      obtain ⟨la3, lc3, oa3, oc3, rfl⟩ : ∃ la lc oa oc, cs3 = [.int .i64 3, .bool false, .int .i64 (-(u : Int)), .string ⟨#[]⟩, .slice la 0 lc, .slice oa 0 oc] := six_now (k := 3) (b := false) (n := (-(u : Int))) (t := ⟨#[]⟩) (l := []) (o := []) hf3
      have ha3 := alloc_below w3 (.cells #[.int .i64 3, .bool false, .int .i64 (-(u : Int)), .string ⟨#[]⟩, .slice la3 0 lc3, .slice oa3 0 oc3] 26)
      have hB3 := (HB2.out.trans (hb3.mono HB2.out.size)).alloc (Nat.le_trans HB2.out.size hb3.size) (.cells #[.int .i64 3, .bool false, .int .i64 (-(u : Int)), .string ⟨#[]⟩, .slice la3 0 lc3, .slice oa3 0 oc3] 26)
      have hE3 := HE.out (-(u : Int)) _ _ _ (holdsV_of _ _ (hf3.later ha3).now) (holds_intV _ _ (-(u : Int)))
      clear hb3 hf3 ha3
      have HB3 := Lib.hid hB3
      have HE3 := Lib.hid hE3
      clear hB3 hE3
      go_wp2_with (fail)
      with_reducible refine (HE3.out).mono ?_
      rintro e w4 ⟨rfl, hb4⟩
      have hB4 := HB3.out.trans (hb4.mono HB3.out.size)
      have hK4 := HK.out _ hB4
      clear hb4
      have HB4 := Lib.hid hB4
      have HK4 := Lib.hid hK4
      clear hB4 hK4
      go_wp2_with (fail)
      with_reducible refine (HK4.out).mono ?_
      rintro e w5 ⟨rfl, hb5⟩
      have hB5 := HB4.out.trans (hb5.mono HB4.out.size)
      clear hb5
      have HB5 := Lib.hid hB5
      clear hB5
      go_wp2
      go_ret
      exact ⟨rfl, HB5.out⟩
end Go.Proofs.YtgjiienipeoajaaGreatDoor
