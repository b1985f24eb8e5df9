/- commonplaceref01.Quote: the quote of a text. Condition: a text of at most 10^9 bytes. -/
import Derived.Test.YtjmkafbdmppfaaaDoorProg
import Derived.Test.YtjmkafbdmppfaaaDoorRQuoP
import Derived.Deep.QuietTactic
namespace Go.Proofs.YtjmkafbdmppfaaaDoor
open Go.RowKit

theorem encodeRune_len4 (r : Int) : (Lib.encodeRune r).length ≤ 4 := by
  unfold Lib.encodeRune Lib.encodeRuneZ
  repeat' split
  all_goals simp

set_option maxRecDepth 100000 in
set_option maxHeartbeats 4000000 in
theorem RQuote_calls (s : ByteArray) (w : World) (hs : s.size ≤ 1000000000) (hv : validB s = true) :
    Calls Tryd.prog 30 #[.string s] w fun e w' => e = .returned (.tuple #[.string ⟨(quoteB s).toArray⟩, .int .i64 0]) ∧ Below w.heap.size w w' := by
  have cV := RValid_calls s w hs
  rw [hv] at cV
  have cR := RRunes_calls s w hs
  have hlr : (runes s).length ≤ s.size := runesFrom_len _ _ _
  have hsc : ∀ x ∈ runes s, scalar x.2 := runesFrom_scalar _ _ _
  unfold quoteB
  generalize runes s = L at *
  have HV := Lib.hid cV
  have HR := Lib.hid cR
  have HS := Lib.hid hsc
  clear cV cR hsc hv
  go_enter Tryd.func30, Tryd.ntmps30
  go_wp2_with (fail)
  with_reducible refine HV.out.mono ?_
  rintro e w' ⟨rfl, rfl⟩
  clear HV
  go_wp2_with (fail)
  with_reducible refine HR.out.mono ?_
  rintro e w1 ⟨⟨v1, v2, rfl, hown⟩, hb1⟩
  clear HR
  obtain ⟨la, lc, rfl, hcells⟩ : ∃ la lc, v1 = .slice la L.length lc ∧ Hid (∀ (k : Nat) (x : Nat × Nat), L[k]? = some x → ∃ g off, la = some ⟨g, off, none⟩ ∧ g < w1.heap.size ∧ w1.cell? ⟨g, off + k, none⟩ = some (.int .i64 x.2)) := by
    rcases hown.2 with ⟨hv, hz⟩ | ⟨g, cap, cur, rfl, hbg, hg, hnc, hcm, hcs, htake⟩
    · have hL : L = [] := List.length_eq_zero_iff.1 hz
      subst hL
      exact ⟨none, 0, hv, fun k x hx => by simp at hx⟩
    · refine ⟨some ⟨g, 0, none⟩, cap, rfl, fun k x hx => ⟨g, 0, rfl, (Array.getElem?_eq_some_iff.1 hg).1, ?_⟩⟩
      have := hown.cells (g := g) rfl k (.int .i64 x.2) (by simp [hx])
      rw [Go.WideShapes.add_plain, Nat.zero_add] at this
      rw [Nat.zero_add]
      exact this
  have hb1' := Lib.hid hb1
  have H0 : Hid ((⟨#[34]⟩ : ByteArray).data.toList = 34 :: quoteRunes (L.take 0)) := by show _ = _; simp [quoteRunes]
  clear hown hb1
  go_wp2_with (fail)
  go_loopw [4, 8] (fun o i wr => ∃ (T : ByteArray) (k : Nat), o = .string T ∧ i = .int .i64 k ∧ k ≤ L.length ∧ Hid (T.data.toList = 34 :: quoteRunes (L.take k)) ∧ Hid (Below w1.heap.size w1 wr)) (fun _ i _ => L.length - (intOf i).toNat)
  case atStart => exact ⟨_, 0, rfl, rfl, Nat.zero_le _, H0, Below.refl _ _⟩
  case round =>
    obtain ⟨T, k, rfl, rfl, hk, hT, hbw⟩ := hrel
    clear H0
    obtain ⟨wo, rfl⟩ : ∃ wo : World, wo = wr := ⟨_, rfl⟩
    have hTs : T.size ≤ 6 * L.length + 1 := by
      have h1 := congrArg List.length hT.out
      have h2 := quoteRunes_len (L.take k)
      have h3 : (L.take k).length ≤ L.length := by rw [List.length_take]; omega
      have h4 : T.data.toList.length = T.size := by rw [Array.length_toList]; rfl
      simp only [List.length_cons] at h1
      omega
    by_cases hlt : k < L.length
    · obtain ⟨⟨p, r⟩, hx⟩ : ∃ v, L[k]? = some v := ⟨_, List.getElem?_eq_getElem hlt⟩
      obtain ⟨g, off, rfl, hg, hc0⟩ := hcells.out k _ hx
      have hc : wo.cell? ⟨g, off + k, none⟩ = some (.int .i64 r) := (hbw.out.cell (p := ⟨g, off + k, none⟩) hg).trans hc0
      have hsc := HS.out _ (List.mem_of_getElem? hx)
      unfold scalar at hsc
      simp only at hsc
      obtain ⟨hsc1, hsc2⟩ := hsc
      have htk : L.take (k + 1) = L.take k ++ [(p, r)] := by rw [List.take_add_one, hx]; rfl
      have hsn : Hid (34 :: quoteRunes (L.take (k + 1)) = T.data.toList ++ quoteRune r) := by
        show _ = _
        rw [htk, hT.out]; simp [quoteRunes]
      have Hsc := Lib.hid hsc2
      have hB0 : Hid (Below w1.heap.size w1 wo) := hbw
      have hN0 : Hid (NoLet r 0) := fun i hi => by omega
      clear hT htk hx hc0 hsc2 hbw
      go_wp2_with (fail)
      go_loopw [10] (fun j wr => ∃ n : Nat, j = .int .i64 n ∧ n ≤ 8 ∧ Hid (NoLet r n) ∧ Hid (Below w1.heap.size w1 wr)) (fun j _ => 8 - (intOf j).toNat)
      case atStart => exact ⟨0, rfl, by omega, hN0, hB0⟩
      case round =>
        obtain ⟨n, rfl, hn, hno, hbw⟩ := hrel
        clear hN0 hB0
        rcases (by omega : n = 2 ∨ (n ≠ 2 ∧ n < 8) ∨ n = 8) with rfl | ⟨hn2, hn8⟩ | rfl
        · have hno' := Lib.hid (hno.out.step (.inl rfl))
          clear hno hsn hc
          go_wp2_with (fail)
          go_roundw
          case rel => exact ⟨2 + 1, rfl, by omega, hno', hbw⟩
          case measure => simp [intOf]
        · obtain ⟨c, hcc⟩ : ∃ c, codeTab[n]? = some c := ⟨_, List.getElem?_eq_getElem hn8⟩
          have hcd : codeTab.getD n 0 = c := by simp [List.getD, hcc]
          have cC := Lib.hid (RCode_calls n c hcc wr)
          have hn2' : ((n : Int) == 2) = false := by simp; omega
          by_cases hcr : c = (r : Int)
          · have hq : quoteRune r = [92, letTab.getD n 0] := by
              have := quoteRune_let ⟨n, hn8⟩ hn2
              simp only [hcd, hcr, Int.toNat_natCast] at this
              exact this
            rw [hq] at hsn
            subst hcr
            have hlet := fun w => run_let n hn8 w
            generalize letTab.getD n 0 = c8 at hsn hlet
            have hT' : Hid ((T ++ ⟨#[92]⟩ ++ ⟨#[c8]⟩).data.toList = 34 :: quoteRunes (L.take (k + 1))) := by
              show _ = _
              rw [hsn.out, ByteArray.data_append, Array.toList_append, ByteArray.data_append, Array.toList_append]
              simp
            clear hno hsn hcc hcd hc hq
            go_wp2_with (fail)
            with_reducible refine cC.out.mono ?_
            rintro e w2 ⟨rfl, hb2⟩
            have hbw2 := Lib.hid (hbw.out.trans (hb2.mono hbw.out.size))
            clear hb2 hbw cC
            have hl2 := hlet w2
            clear hlet
            go_wp2
            go_roundw
            case rel => exact ⟨_, k + 1, rfl, by go_num, by omega, hT', hbw2⟩
            case measure => simp only [intOf]; omega
          · have hno' := Lib.hid (hno.out.step (.inr (by rw [hcd]; exact hcr)))
            have hcr1 : (c == (r : Int)) = false := by simpa using hcr
            have hcr2 : (c != (r : Int)) = true := by simpa using hcr
            clear hno hsn hcc hcd hc hcr
            go_wp2_with (fail)
            with_reducible refine cC.out.mono ?_
            rintro e w2 ⟨rfl, hb2⟩
            have hbw2 := Lib.hid (hbw.out.trans (hb2.mono hbw.out.size))
            clear hb2 hbw cC
            go_wp2
            go_roundw
            case rel => exact ⟨n + 1, by go_num, by omega, hno', hbw2⟩
            case measure => simp only [intOf]; omega
        · have hq := quoteRune_no hno.out
          rw [hq] at hsn
          clear hno hc hq
          by_cases h32 : r < 32
          · rw [if_pos h32] at hsn
            have hT' : Hid ((T ++ ⟨#[92, 117, 48, 48]⟩ ++ ⟨#[hexd (r / 16)]⟩ ++ ⟨#[hexd (r % 16)]⟩).data.toList = 34 :: quoteRunes (L.take (k + 1))) := by
              show _ = _
              rw [hsn.out, ByteArray.data_append, Array.toList_append, ByteArray.data_append, Array.toList_append, ByteArray.data_append, Array.toList_append]
              simp
            have hx1 := fun w => run_hex (r / 16) (by omega) w
            have hx2 := fun w => run_hex (r % 16) (by omega) w
            have hq16 : (r : Int) / 16 = ((r / 16 : Nat) : Int) := by omega
            have hm16 : (r : Int) % 16 = ((r % 16 : Nat) : Int) := by omega
            have hq16' : (r : Int).tdiv 16 = ((r / 16 : Nat) : Int) := by rw [Int.tdiv_eq_ediv_of_nonneg (by omega)]; omega
            have hm16' : (r : Int).tmod 16 = ((r % 16 : Nat) : Int) := by rw [Int.tmod_eq_emod_of_nonneg (by omega)]; omega
            have hql : r / 16 < 2 := by omega
            have hml : r % 16 < 16 := by omega
            generalize hexd (r / 16) = e1 at *
            generalize hexd (r % 16) = e2 at *
            generalize r / 16 = q at *
            generalize r % 16 = m at *
            have hw1 : IntKind.i64.wrap ((q : Int) + 1) = (q : Int) + 1 := IntWalk.i64_in _ (by omega)
            have hw2 : IntKind.i64.wrap ((m : Int) + 1) = (m : Int) + 1 := IntWalk.i64_in _ (by omega)
            clear hsn
            go_wp2_with (fail)
            go_quiet (fail)
            have hbw2 := Lib.hid (below_drewN hbw.out nq)
            clear hx1 hx2 hq16 hm16 hq16' hm16' hw1 hw2 hbw
            go_wp2
            go_roundw
            case rel => exact ⟨_, k + 1, rfl, by go_num, by omega, hT', hbw2⟩
            case measure => simp only [intOf]; omega
          · rw [if_neg h32] at hsn
            have cB := Lib.hid (RBytes_calls r (by omega) (by omega) (by have := Hsc.out; omega) wr)
            have hel : (Lib.encodeRune (r : Int)).length ≤ 4 := encodeRune_len4 r
            obtain ⟨X, hX⟩ : ∃ X : ByteArray, (⟨(Lib.encodeRune (r : Int)).toArray⟩ : ByteArray) = X := ⟨_, rfl⟩
            have hXs : X.size ≤ 4 := by rw [← hX]; exact hel
            have hT' : Hid ((T ++ X).data.toList = 34 :: quoteRunes (L.take (k + 1))) := by
              show _ = _
              rw [hsn.out, ByteArray.data_append, Array.toList_append, ← hX]
            rw [hX] at cB
            clear hsn hel hX
            go_wp2_with (fail)
            with_reducible refine cB.out.mono ?_
            rintro e w2 ⟨rfl, hb2⟩
            have hbw2 := Lib.hid (hbw.out.trans (hb2.mono hbw.out.size))
            clear hb2 hbw cB
            go_wp2
            go_roundw
            case rel => exact ⟨_, k + 1, rfl, by go_num, by omega, hT', hbw2⟩
            case measure => simp only [intOf]; omega
    · obtain rfl : k = L.length := by omega
      have hT' := hT.out
      rw [List.take_length] at hT'
      have hE : (⟨(34 :: (quoteRunes L ++ [34])).toArray⟩ : ByteArray) = T ++ ⟨#[34]⟩ := by
        apply ByteArray.ext
        rw [ByteArray.data_append]
        apply Array.ext'
        rw [Array.toList_append, hT']
        simp
      have HE := Lib.hid hE
      clear hT hT' hE
      go_wp2
      go_ret2
      exact ⟨by rw [HE.out]; rfl, hb1'.out.trans (hbw.out.mono hb1'.out.size)⟩

end Go.Proofs.YtjmkafbdmppfaaaDoor
