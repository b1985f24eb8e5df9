/- Parts, joined: The law ParseOrder: it answers true. Condition: members of bulk at most 1048576. -/
import Derived.Test.YtgjiienipeoajaaGreatDoorProg
import Derived.Deep.QuietTactic
import Derived.Test.YtgjiienipeoajaaGreatDoorKPrs21
import Derived.Test.YtgjiienipeoajaaGreatDoorKPrs27
import Derived.Test.YtgjiienipeoajaaGreatDoorKParseOrder1
import Derived.Test.YtgjiienipeoajaaGreatDoorKParseOrder2
/- The law ParseOrder: it answers true. Condition: members of bulk at most 1048576. -/
namespace Go.Proofs.YtgjiienipeoajaaGreatDoor
open Go Go.RowKit

theorem textP_len {m : ByteArray × Val} (h : okM m) : (textP m).length + 4 ≤ 6 * bulkP m := by
  obtain ⟨k, v⟩ := m
  have h1 := quoteB_len k
  have h2 := textV_len v (okV_of v 2 h.2.1 h.2.2)
  simp only [textP, List.length_append, List.length_cons, bulkP]
  omega
theorem inO_mem' : ∀ {l : List (ByteArray × Val)}, inO l → ∀ m ∈ l, inV m.2
  | [], _, m, h => by cases h
  | (k, v) :: r, hi, m, h => by
    simp only [inO, inP] at hi
    rcases List.mem_cons.1 h with rfl | h
    · exact hi.1
    · exact inO_mem' hi.2 m h
theorem bulkO_take {l : List (ByteArray × Val)} {q : Nat} {m : ByteArray × Val} (h : l[q]? = some m) : bulkO (l.take (q + 1)) = bulkO (l.take q) + bulkP m := by
  rw [List.take_add_one, h, Option.toList_some, bulkO_snoc]
theorem bulkO_take_le (l : List (ByteArray × Val)) (q : Nat) : bulkO (l.take q) ≤ bulkO l := by
  have := bulkO_app (l.take q) (l.drop q)
  rw [List.take_append_drop] at this
  omega
theorem holds_one {w : World} {B g off q : Nat} {l : List (ByteArray × Val)} {m : ByteArray × Val} (h : HoldsO w B l g off) (hm : l[q]? = some m) (hg : g < B) (c : Nat) : HoldsV w B (.mk 6 false 0 ⟨#[]⟩ [] [m]) [.int .i64 6, .bool false, .int .i64 0, .string ⟨#[]⟩, .slice none 0 0, .slice (some ⟨g, off + q * 7, none⟩) 1 c] := by
  simp only [HoldsV]
  refine ⟨none, 0, _, c, rfl, by simp, .inr ⟨g, off + q * 7, rfl, hg, ?_⟩⟩
  obtain ⟨h1, cs, h2, h3⟩ := h.at_ hm
  obtain ⟨k, v⟩ := m
  simp only [HoldsO, HoldsP, and_true]
  exact ⟨h1, cs, h2, h3⟩
set_option maxRecDepth 100000 in
set_option maxHeartbeats 32000000 in
theorem ParseOrder_law (l : List (ByteArray × Val)) (la : Option Addr) (lc : Nat) (w : World) (hT : Tabs w) (hN : NumT w) (hl : l = [] ∨ ∃ g off, la = some ⟨g, off, none⟩ ∧ g < w.heap.size ∧ HoldsO w w.heap.size l g off) (hcap : l.length ≤ lc) (hb : bulkO l ≤ 1048576) (hi : inO l) :
    Calls Tryz.prog 4 #[.slice la l.length lc] w fun e w' => e = .returned (.bool true) ∧ Below w.heap.size w w' := by
  have hln := bulkO_len l
  have hin := inO_mem' hi
  have hK : ∀ W, Below w.heap.size w W → Calls Tryz.prog 13 #[] W fun e w' => e = .returned (.bool true) ∧ Below W.heap.size W w' := fun W hW => known4_calls W (hT.below hW) (hN.below hW)
  have hS0 : Hid (([123] : List UInt8) = SL l 0) := rfl
  have hW0 : Hid (TW l 0 (-1)) := TW.zero l
  have hO0 : Hid (∀ m ∈ l.take 0, okM m) := fun m hm => by simp at hm
  have hB0 : Hid (Below w.heap.size w w) := Below.refl _ _
  have hz0 : bulkO (l.take 0) = 0 := by simp [bulkO]
  have HK := Lib.hid hK
  have Hin := Lib.hid hin
  have Hi := Lib.hid hi
  have Hl := Lib.hid hl
  have HT := Lib.hid hT
  have HN := Lib.hid hN
  clear hK hin hi hl hT hN
  go_enter Tryz.func4, Tryz.ntmps4
  go_wp2_with (fail)
  go_loopw [3, 4, 5] (fun s t i wr => ∃ (q : Nat) (T : ByteArray) (tw : Int), s = .string T ∧ t = .int .i64 tw ∧ i = .int .i64 q ∧ q ≤ l.length ∧ T.size ≤ 1 + 6 * bulkO (l.take q) ∧ Hid (T.data.toList = SL l q) ∧ Hid (TW l q tw) ∧ Hid (∀ m ∈ l.take q, okM m) ∧ Hid (Below w.heap.size w wr)) (fun _ _ i _ => l.length - (intOf i).toNat)
  case atStart => exact ⟨0, ⟨#[123]⟩, -1, rfl, rfl, rfl, Nat.zero_le _, by rw [hz0]; decide, hS0, hW0, hO0, hB0⟩
  case round =>
    obtain ⟨q, T, tw, rfl, rfl, rfl, hq, hTs, hTl, hTW, hOk, hBw⟩ := hrel
    clear hS0 hW0 hO0 hB0 hz0
    have hbt := bulkO_take_le l q
    have hT7 : T.size ≤ 10000000 := by omega
    have q0 : (0 : Int) ≤ (q : Int) := by omega
    by_cases hlt : q < l.length
    · obtain ⟨g, off, rfl, hg, hL⟩ : ∃ g off, la = some ⟨g, off, none⟩ ∧ g < w.heap.size ∧ HoldsO w w.heap.size l g off := by
        rcases Hl.out with h0 | h
        · rw [h0] at hlt; simp at hlt
        · exact h
      obtain ⟨⟨key, x⟩, hm⟩ : ∃ v, l[q]? = some v := ⟨_, List.getElem?_eq_getElem hlt⟩
      have hbm := bulkO_take hm
      have hbm2 := bulkO_take_le l (q + 1)
      have hks : key.size + x.bulk + 1 ≤ bulkO l := by rw [hbm] at hbm2; simp only [bulkP] at hbm2; omega
      have hix := Hin.out _ (List.mem_of_getElem? hm)
      have l1 : decide ((q : Int) < (l.length : Int)) = true := decide_eq_true (by omega)
      have l2 : (q : Int) < (l.length : Int) := by omega
      have l3 : (q : Int) + 1 ≤ (lc : Int) := by omega
      have l4 : (q : Int) ≤ (q : Int) + 1 := by omega
      have l5 : q + 1 ≤ lc := by omega
      have hHW : ∀ W, Below w.heap.size w W → HoldsO W W.heap.size l g off := fun W h => HoldsO.of_more l (fun _ _ cs => HoldsV.more h.size _ cs) g off (hL.below hg h)
      have hMy : ∀ W, Below w.heap.size w W → Calls Tryz.prog 14 #[.agg #[.int .i64 6, .bool false, .int .i64 0, .string ⟨#[]⟩, .slice none 0 0, .slice (some ⟨g, off + q * 7, none⟩) 1 (lc - q)]] W fun e w' => e = .returned (.int .i64 (mayV (.mk 6 false 0 ⟨#[]⟩ [] [(key, x)]) 1)) ∧ Below W.heap.size W w' := fun W h =>
        RMay_calls _ _ W (holds_one (hHW W h) hm (by have := h.size; omega) _) (by simp only [Val.bulk, bulkL, bulkO, bulkP]; have e0 : (⟨#[]⟩ : ByteArray).size = 0 := rfl; omega)
      obtain ⟨mv, hmv⟩ : ∃ mv, mayV (.mk 6 false 0 ⟨#[]⟩ [] [(key, x)]) 1 = mv := ⟨_, rfl⟩
      rw [hmv] at hMy
      have hMy1 := hMy wr hBw.out
      by_cases h0 : mv = 0
      rotate_left
      · have e1 : (mv != 0) = true := by simp [bne, h0]
        clear hHW hL
        have HMy1 := Lib.hid hMy1
        have Hm := Lib.hid hm
        have Hmv := Lib.hid hmv
        clear hMy1 hm hmv
        clear hMy
        go_wp2_with (fail)
        with_reducible refine (HMy1.out).mono ?_
        rintro e w1 ⟨rfl, hb1⟩
        have hB1 := hBw.out.trans (hb1.mono hBw.out.size)
        have hK1 := HK.out _ hB1
        clear hb1
        have HB1 := Lib.hid hB1
        have HK1 := Lib.hid hK1
        clear hB1 hK1
        go_wp2_with (fail)
        with_reducible refine (HK1.out).mono ?_
        rintro e w2 ⟨rfl, hb2⟩
        have hB2 := HB1.out.trans (hb2.mono HB1.out.size)
        clear hb2
        have HB2 := Lib.hid hB2
        clear hB2
        go_wp2
        go_ret
        exact ⟨rfl, HB2.out⟩
      have e1 : (mv != 0) = false := by simp [bne, h0]
      have hok : okM (key, x) := by
        rw [h0] at hmv
        have := (may_one (key, x)).1 hmv
        exact ⟨this.1, this.2, hix⟩
      have htl := textP_len hok
      have hqz := quoteB_len key
      have hvl := textV_len x (okV_of x 2 hok.2.1 hok.2.2)
      have hQu : ∀ W, Calls Tryz.prog 15 #[.string key] W fun e w' => e = .returned (.tuple #[.string ⟨(quoteB key).toArray⟩, .int .i64 0]) ∧ Below W.heap.size W w' := fun W => RQuote_calls key W (by omega) hok.1
      have hTx : ∀ (cs : List Value) W, HoldsV W W.heap.size x cs → Calls Tryz.prog 16 #[.agg cs.toArray] W fun e w' => e = .returned (.string ⟨(textV x).toArray⟩) ∧ Below W.heap.size W w' := fun cs W h => rtext_calls x cs W 2 h (by omega) hok.2.1 hix
      have hqs : (⟨(quoteB key).toArray⟩ : ByteArray).size = (quoteB key).length := rfl
      have hvs : (⟨(textV x).toArray⟩ : ByteArray).size = (textV x).length := rfl
      have hstep := SL_step hm
      have hx2 : (textP (key, x)) = quoteB key ++ 58 :: textV x := rfl
      rw [hx2] at hstep htl
      have hOk2 : ∀ m ∈ l.take (q + 1), okM m := by
        rw [List.take_add_one, hm, Option.toList_some]
        intro m h
        rcases List.mem_append.1 h with h | h
        · exact hOk.out m h
        · simp only [List.mem_cons, List.not_mem_nil, or_false] at h
          rw [h]; exact hok
      have hck : ∀ W, Below w.heap.size w W → ∀ y m', l[y]? = some m' → W.cell? ⟨g, off + y * 7, none⟩ = some (.string m'.1) := fun W h y m' h' => ((hHW W h).at_ h').1
      obtain ⟨k', b', n', t', l', o'⟩ := x
      have hsev : ∀ W, Below w.heap.size w W → ∃ la lc oa oc, HoldsV W W.heap.size (.mk k' b' n' t' l' o') (cells6 k' b' n' t' la l'.length lc oa o'.length oc) ∧ W.cell? ⟨g, off + q * 7, none⟩ = some (.string key) ∧ W.cell? ⟨g, off + q * 7 + 1, none⟩ = some (.int .i64 k') ∧ W.cell? ⟨g, off + q * 7 + 2, none⟩ = some (.bool b') ∧
          W.cell? ⟨g, off + q * 7 + 3, none⟩ = some (.int .i64 n') ∧ W.cell? ⟨g, off + q * 7 + 4, none⟩ = some (.string t') ∧ W.cell? ⟨g, off + q * 7 + 5, none⟩ = some (.slice la l'.length lc) ∧ W.cell? ⟨g, off + q * 7 + 6, none⟩ = some (.slice oa o'.length oc) := fun W h => (hHW W h).seven hm
      obtain ⟨QQ, hQQ⟩ : ∃ Q : ByteArray, (⟨(quoteB key).toArray⟩ : ByteArray) = Q := ⟨_, rfl⟩
      have hQQl : QQ.data.toList = quoteB key := by rw [← hQQ]
      rw [hQQ] at hQu hqs
      obtain ⟨VV, hVV⟩ : ∃ V : ByteArray, (⟨(textV (.mk k' b' n' t' l' o')).toArray⟩ : ByteArray) = V := ⟨_, rfl⟩
      have hVVl : VV.data.toList = textV (.mk k' b' n' t' l' o') := by rw [← hVV]
      rw [hVV] at hTx hvs
      have hQs : QQ.size ≤ 10000000 := by omega
      have hVs : VV.size ≤ 10000000 := by omega
      rw [hbm] at hbm2
      have hTs2 : T.size + (quoteB key ++ 58 :: textV (.mk k' b' n' t' l' o')).length + 1 ≤ 1 + 6 * bulkO (l.take (q + 1)) := by rw [hbm]; omega
      rw [List.length_append, List.length_cons] at hTs2
      clear hMy hHW hL h0 hmv
      have HMy1 := Lib.hid hMy1
      have Hm := Lib.hid hm
      have Hok := Lib.hid hok
      have HQu := Lib.hid hQu
      have HTx := Lib.hid hTx
      have Hstep := Lib.hid hstep
      have HOk2 := Lib.hid hOk2
      have Hck := Lib.hid hck
      have Hsev := Lib.hid hsev
      have HQQl := Lib.hid hQQl
      have HVVl := Lib.hid hVVl
      have Hqs := Lib.hid hqs
      have Hvs := Lib.hid hvs
      have HTs2 := Lib.hid hTs2
      clear hMy1 hm hok hQu hTx hstep hOk2 hck hsev hQQl hVVl hqs hvs hTs2
      clear htl hqz hvl hQQ hVV hx2 hbm hix
      go_wp2_with (fail)
      with_reducible refine (HMy1.out).mono ?_
      rintro e w1 ⟨rfl, hb1⟩
      have hB1 := hBw.out.trans (hb1.mono hBw.out.size)
      have HB1 := Lib.hid hB1
      clear hB1
      clear hb1 HMy1
      go_upto_if 30 with (fail)
      go_cut [3] (fun s wx => ∃ T' : ByteArray, s = .string T' ∧ T'.size ≤ T.size + 1 ∧ Hid (T'.data.toList = SC l q) ∧ wx = w1)
      case first =>
        by_cases hq0 : q = 0
        · subst hq0
          have hTT : Hid (T.data.toList = SC l 0) := hTl.out
          have g0 : decide ((0 : Int) < ((0 : Nat) : Int)) = false := by decide
          go_wp2
          go_meet
          exact ⟨T, rfl, by omega, hTT, rfl⟩
        · have g0 : decide ((0 : Int) < (q : Int)) = true := decide_eq_true (by omega)
          have g1 : (0 : Int) < (q : Int) := by omega
          have hTT : Hid ((T ++ ⟨#[44]⟩).data.toList = SC l q ∧ (T ++ ⟨#[44]⟩).size ≤ T.size + 1) := by
            refine ⟨?_, ?_⟩
            · rw [ByteArray.data_append, Array.toList_append, hTl.out]
              unfold SC
              rw [if_neg hq0]
            · rw [ByteArray.size_append]; exact Nat.le_refl _
          clear hq0
          go_wp2
          go_meet
          exact ⟨_, rfl, hTT.out.2, hTT.out.1, rfl⟩
      obtain ⟨T', rfl, hT's, hT'l, rfl⟩ := hcut
      have hT'7 : T'.size ≤ 10000001 := by omega
      have hTlen : (SC l q).length = T'.size := by rw [← hT'l.out, size_toList]
      obtain ⟨wo, hwo⟩ : ∃ wo : World, wo = wc := ⟨_, rfl⟩
      subst hwo
      have HTlen := Lib.hid hTlen
      clear hTlen
      go_upto_block 2 with (fail)
      go_cut [4] (fun t wx => ∃ (tw' : Int) (n : Nat), t = .int .i64 tw' ∧ Hid (TW l (q + 1) tw') ∧ wx = wo.drewN n)
      case first =>
        by_cases htw : tw < 0
        rotate_left
        · have t1 : decide (tw < 0) = false := decide_eq_false htw
          have HN : Hid (TW l (q + 1) tw) := hTW.out.stay (by omega)
          by_cases hq0 : 0 < q
          · have g0 : decide ((0 : Int) < (q : Int)) = true := decide_eq_true (by omega)
            have g1 : (0 : Int) < (q : Int) := by omega
            go_wp2_with (fail)
            go_loopw [4, 6] (fun t a wx => t = .int .i64 tw ∧ a = .int .i64 0 ∧ wx = wo) (fun _ _ _ => 0)
            case atStart => exact ⟨rfl, rfl, rfl⟩
            case round =>
              obtain ⟨rfl, rfl, rfl⟩ := hrel
              go_wp2
              go_meet
              exact ⟨tw, 0, rfl, HN, rfl⟩
          · obtain rfl : q = 0 := by omega
            go_wp2_with (fail)
            go_loopw [4, 6] (fun t a wx => t = .int .i64 tw ∧ a = .int .i64 0 ∧ wx = wo) (fun _ _ _ => 0)
            case atStart => exact ⟨rfl, rfl, rfl⟩
            case round =>
              obtain ⟨rfl, rfl, rfl⟩ := hrel
              go_wp2
              go_meet
              exact ⟨tw, 0, rfl, HN, rfl⟩
        obtain rfl := hTW.out.neg htw
        have H0k : Hid (hasK key (l.take 0) = false) := by show _ = _; simp [hasK]
        clear htw
        go_wp2_with (fail)
        go_loopw [4, 6] (fun t a wx => ∃ (y n : Nat) (B : Bool), a = .int .i64 (y : Nat) ∧ y ≤ q ∧ t = .int .i64 (if B = true then (T'.size : Int) else -1) ∧ Hid (hasK key (l.take y) = B) ∧ wx = wo.drewN n) (fun _ a _ => q - (intOf a).toNat)
        case atStart => exact ⟨0, 0, false, rfl, Nat.zero_le _, rfl, H0k, rfl⟩
        case round =>
          obtain ⟨y, n, B, rfl, hy, rfl, hkB, rfl⟩ := hrel
          clear H0k
          have y0 : (0 : Int) ≤ (y : Int) := by omega
          cases B with
          | true =>
            have HN : Hid (TW l (q + 1) (T'.size : Int)) := by
              have := hTW.out.hit Hm.out (hasK_mono hy hkB.out)
              rw [HTlen.out] at this
              exact this
            have t1 : decide ((T'.size : Int) < 0) = false := decide_eq_false (by omega)
            simp only [if_true]
            by_cases hyq : y < q
            · have g0 : decide ((y : Int) < (q : Int)) = true := decide_eq_true (by omega)
              go_wp2
              go_meet
              exact ⟨_, n, rfl, HN, rfl⟩
            · have g0 : decide ((y : Int) < (q : Int)) = false := decide_eq_false (by omega)
              go_wp2
              go_meet
              exact ⟨_, n, rfl, HN, rfl⟩
          | false =>
            by_cases hyq : y < q
            · have g0 : decide ((y : Int) < (q : Int)) = true := decide_eq_true (by omega)
              obtain ⟨m', hm'⟩ : ∃ m', l[y]? = some m' := ⟨_, List.getElem?_eq_getElem (by omega)⟩
              have ck := Hck.out wo HB1.out y m' hm'
              have cq := Hck.out wo HB1.out q _ Hm.out
              simp only at cq
              have y1 : (y : Int) < (l.length : Int) := by omega
              have y2 : y < l.length := by omega
              have htk := hasK_take hm' key
              rw [hkB.out, Bool.false_or] at htk
              by_cases he : m'.1 = key
              · rw [decide_eq_true he] at htk
                rw [he] at ck
                have HN := Lib.hid htk
                clear htk hm' he hkB
                go_wp2_with (fail)
                go_quiet (fail)
                go_wp2
                go_roundw
                case rel => exact ⟨y + 1, _, true, by go_num, by omega, rfl, HN, by first | rfl | exact World.drewN_drewN _ _ _⟩
                case measure => simp only [intOf]; omega
              · rw [decide_eq_false he] at htk
                have hnl : (m'.1.toList == key.toList) = false := by
                  rw [beq_eq_false_iff_ne, ByteArray.toList_eq, ByteArray.toList_eq]
                  intro e
                  exact he (ByteArray.ext (Array.toList_inj.1 e))
                have HN := Lib.hid htk
                have He := Lib.hid he
                clear he
                clear htk hm' hkB
                go_wp2_with (fail)
                go_quiet (fail)
                go_wp2
                go_roundw
                case rel => exact ⟨y + 1, _, false, by go_num, by omega, rfl, HN, by first | rfl | exact World.drewN_drewN _ _ _⟩
                case measure => simp only [intOf]; omega
            · obtain rfl : y = q := by omega
              have g0 : decide ((y : Int) < (y : Int)) = false := decide_eq_false (by omega)
              have HN : Hid (TW l (y + 1) (-1)) := hTW.out.miss Hm.out hkB.out
              go_wp2
              go_meet
              exact ⟨_, n, rfl, HN, rfl⟩
      obtain ⟨tw', n, rfl, hTW', rfl⟩ := hcut
      have hB2 := (below_drewN' HB1.out n)
      obtain ⟨xa, xc, xo, xp, hv0, c0, c1, c2, c3, c4, c5, c6⟩ := Hsev.out _ hB2
      have hQ2 := HQu.out (wo.drewN n)
      have y1 : (q : Int) < (l.length : Int) := by omega
      have HB2 := Lib.hid hB2
      have HQ2 := Lib.hid hQ2
      have Hv0 := Lib.hid hv0
      clear hB2 hQ2 hv0
      go_wp2_with (fail)
      with_reducible refine (HQ2.out).mono ?_
      rintro e w3 ⟨rfl, hb3⟩
      have hB3 := HB2.out.trans (hb3.mono HB2.out.size)
      clear c0 c1 c2 c3 c4 c5 c6 hb3
      obtain ⟨xa, xc, xo, xp, hv0, c0, c1, c2, c3, c4, c5, c6⟩ := Hsev.out _ hB3
      have hT3 := HTx.out _ _ hv0
      have hz1 : T'.size + QQ.size ≤ 100000000 := by omega
      have hz2 : (T' ++ QQ).size ≤ 100000000 := by rw [ByteArray.size_append]; omega
      have hz3 : (T' ++ QQ ++ ⟨#[58]⟩).size ≤ 100000001 := by rw [ByteArray.size_append]; exact Nat.succ_le_succ hz2
      have hz4 : (T' ++ QQ ++ ⟨#[58]⟩ ++ VV).size = T'.size + (QQ.size + 1 + VV.size) := by rw [ByteArray.size_append, ByteArray.size_append, ByteArray.size_append, show (⟨#[58]⟩ : ByteArray).size = 1 from rfl]; omega
      have HB3 := Lib.hid hB3
      have HT3 := Lib.hid hT3
      have Hv0 := Lib.hid hv0
      have Hz4 := Lib.hid hz4
      clear hB3 hT3 hv0 hz4
      go_wp2_with (fail)
      with_reducible refine (HT3.out).mono ?_
      rintro e w4 ⟨rfl, hb4⟩
      have hB4 := HB3.out.trans (hb4.mono HB3.out.size)
      clear c0 c1 c2 c3 c4 c5 c6 hb4
      have HN1 : Hid ((T' ++ QQ ++ ⟨#[58]⟩ ++ VV).data.toList = SL l (q + 1)) := by
        show _ = _
        rw [Hstep.out, ByteArray.data_append, ByteArray.data_append, ByteArray.data_append, Array.toList_append, Array.toList_append, Array.toList_append, hT'l.out, HQQl.out, HVVl.out]
        simp
      have HN2 : Hid ((T' ++ QQ ++ ⟨#[58]⟩ ++ VV).size ≤ 1 + 6 * bulkO (l.take (q + 1))) := by
        show _ ≤ _
        rw [Hz4.out]
        have := HTs2.out
        have e1 := Hqs.out
        have e2 := Hvs.out
        omega
      have HB4 := Lib.hid hB4
      clear hB4
      go_wp2
      go_roundw
      case rel => exact ⟨q + 1, _, tw', rfl, rfl, by go_num, by omega, HN2.out, HN1, hTW', HOk2, HB4⟩
      case measure => simp only [intOf]; omega
    · obtain rfl : q = l.length := by omega
      have l1 : decide ((l.length : Int) < (l.length : Int)) = false := decide_eq_false (by omega)
      have hok := hOk.out
      rw [List.take_length] at hok
      have hTd : (T ++ ⟨#[125]⟩).data.toList = SL l l.length ++ [125] := by rw [ByteArray.data_append, Array.toList_append, hTl.out]
      have hTz : (T ++ ⟨#[125]⟩).size = T.size + 1 := by rw [ByteArray.size_append]; rfl
      by_cases htw : 0 ≤ tw
      · have t1 : decide (0 ≤ tw) = true := decide_eq_true htw
        have hbad : parseL (T ++ ⟨#[125]⟩).data.toList = .bad 8 tw.toNat := by
          rcases hTW.out with ⟨e, _⟩ | ⟨k, m, _, hk2, hk3, hk4, hk5⟩
          · omega
          · rw [hTd, order_twice hok hk2 hk3 hk4, hk5]; rfl
        have hF := falls_yes _ 8 tw.toNat wr (HT.out.below hBw.out) (HN.out.below hBw.out) (by rw [hTz]; omega) hbad
        rw [Int.toNat_of_nonneg htw] at hF
        clear hbad hTd hTz hok
        have HF := Lib.hid hF
        clear hF
        go_wp2_with (fail)
        with_reducible refine (HF.out).mono ?_
        rintro e w1 ⟨rfl, hb1⟩
        have hB1 := hBw.out.trans (hb1.mono hBw.out.size)
        have hK1 := HK.out _ hB1
        clear hb1
        have HB1 := Lib.hid hB1
        have HK1 := Lib.hid hK1
        clear hB1 hK1
        go_wp2_with (fail)
        with_reducible refine (HK1.out).mono ?_
        rintro e w2 ⟨rfl, hb2⟩
        have hB2 := HB1.out.trans (hb2.mono HB1.out.size)
        clear hb2
        have HB2 := Lib.hid hB2
        clear hB2
        go_wp2
        go_ret
        exact ⟨rfl, HB2.out⟩
      · have t1 : decide (0 ≤ tw) = false := decide_eq_false htw
        have hnd : (l.map (·.1)).Nodup := by
          rcases hTW.out with ⟨e, h⟩ | ⟨k, m, _, hk2, hk3, hk4, hk5⟩
          · rwa [List.take_length] at h
          · omega
        obtain ⟨hs1, _, _⟩ := sortO_some hnd
        have hlen : (SL l l.length).length = T.size := by rw [← hTl.out, size_toList]
        have hgood : parseL (T ++ ⟨#[125]⟩).data.toList = .ok (objV (sortO l)) (T.size + 1) := by rw [hTd, order_ok hok hnd, hlen]
        have hbs := sortO_bulk l
        have hOb := object_walkF copy_calls l la lc wr (by
          rcases Hl.out with h | ⟨g, off, e, hg, hL⟩
          · exact .inl h
          · exact .inr ⟨g, off, e, Nat.lt_of_lt_of_le hg hBw.out.size, HoldsO.of_more l (fun _ _ cs => HoldsV.more hBw.out.size _ cs) g off (hL.below hg hBw.out)⟩) (by omega)
        have hPr : ∀ W, Below w.heap.size w W → Calls Tryz.prog 10 #[.string (T ++ ⟨#[125]⟩)] W (RefOut W (.ok (objV (sortO l)) (T.size + 1))) := fun W h => by
          have := parse_calls (T ++ ⟨#[125]⟩) W (HT.out.below h) (HN.out.below h) (by rw [hTz]; omega)
          rwa [hgood] at this
        have hbo : (objV (sortO l)).bulk ≤ 100000000 := by unfold objV; simp only [Val.bulk, bulkL]; simp [emptyB, ByteArray.size]; omega
        have hE : ∀ (cs cs' : List Value) (W : World), HoldsV W W.heap.size (objV (sortO l)) cs → HoldsV W W.heap.size (objV (sortO l)) cs' → Calls Tryz.prog 12 #[.agg cs.toArray, .agg cs'.toArray] W fun e w' => e = .returned (.bool true) ∧ Below W.heap.size W w' := fun cs cs' W => equal_same _ hbo cs cs' W
        obtain ⟨ol, hol⟩ : ∃ ol, sortO l = ol := ⟨_, rfl⟩
        rw [hol] at hPr hE hs1
        have hez : (((T.size + 1 : Nat) : Int) == (T.size : Int) + 1) = true := by rw [beq_iff_eq]; omega
        clear hgood hTd hok hnd hbo hbs hlen hTz hol
        have HOb := Lib.hid hOb
        have HPr := Lib.hid hPr
        have HE := Lib.hid hE
        have Hs1 := Lib.hid hs1
        clear hOb hPr hE hs1
        go_wp2_with (fail)
        with_reducible refine (HOb.out).mono ?_
        rintro e w1 ⟨hb1, ⟨hn1, _⟩ | ⟨o1, oa1, oc1, ho1, rfl, hm1⟩⟩
        · exact absurd (hn1.symm.trans Hs1.out) (by simp)
        · obtain rfl : o1 = ol := Option.some.inj (ho1.symm.trans Hs1.out)
          have hx1 := Bx.new (k := 6) (b := false) (n := 0) (t := ⟨#[]⟩) (l := []) (la := none) (lc := 0) (holdsV_of _ _ (fresh_of_obj (oc := oc1) hm1).now)
          have hB1 := (hBw.out.trans (hb1.mono hBw.out.size)).alloc (Nat.le_trans hBw.out.size hb1.size) (.cells #[.int .i64 6, .bool false, .int .i64 0, .string ⟨#[]⟩, .slice none ([] : List Val).length 0, .slice oa1 o1.length oc1] 26)
          have hP1 := HPr.out _ hB1
          clear hb1 ho1 hm1
          simp only [List.length_nil] at hx1 hB1 hP1
          have Hx1 := Lib.hid hx1
          have HB1 := Lib.hid hB1
          have HP1 := Lib.hid hP1
          clear hx1 hB1 hP1
          go_wp2_with (fail)
          generalize w1.alloc (.cells #[.int .i64 6, .bool false, .int .i64 0, .string ⟨#[]⟩, .slice none 0 0, .slice oa1 o1.length oc1] 26) = W1 at Hx1 HB1 HP1 ⊢
          generalize w1.heap.size = g1 at Hx1 ⊢
          with_reducible refine (HP1.out).mono ?_
          rintro e w2 ⟨hb2, cs2, rfl, hf2⟩
          obtain ⟨xa, xc, xo, xp, rfl⟩ : ∃ la lc oa oc, cs2 = [.int .i64 6, .bool false, .int .i64 0, .string ⟨#[]⟩, .slice la ([] : List Val).length lc, .slice oa o1.length oc] := six_now (k := 6) (b := false) (n := 0) (t := ⟨#[]⟩) (l := []) (o := o1) hf2
          have hx2 := Bx.new (k := 6) (b := false) (n := 0) (t := ⟨#[]⟩) (l := []) (holdsV_of _ _ hf2.now)
          have ha2 := alloc_below w2 (.cells #[.int .i64 6, .bool false, .int .i64 0, .string ⟨#[]⟩, .slice xa ([] : List Val).length xc, .slice xo o1.length xp] 26)
          have hx1' := (Hx1.out.later hb2).later ha2
          have hB2 := (HB1.out.trans (hb2.mono HB1.out.size)).alloc (Nat.le_trans HB1.out.size hb2.size) (.cells #[.int .i64 6, .bool false, .int .i64 0, .string ⟨#[]⟩, .slice xa ([] : List Val).length xc, .slice xo o1.length xp] 26)
          have hE2 := HE.out _ _ _ hx2.holds hx1'.holds
          obtain ⟨z0, z1, z2, z3, z4, z5⟩ := vcell (Hx1.out.later hb2).blk
          have zl := (Hx1.out.later hb2).blk.lt
          clear hb2 hf2 ha2
          simp only [List.length_nil] at hx1' hx2 hB2 hE2 z4 ⊢
          have Hx1' := Lib.hid hx1'
          have HB2 := Lib.hid hB2
          have HE2 := Lib.hid hE2
          have Hx2 := Lib.hid hx2
          clear hx1' hB2 hE2 hx2
          go_wp2_with (fail)
          with_reducible refine (HE2.out).mono ?_
          rintro e w3 ⟨rfl, hb3⟩
          have hB3 := HB2.out.trans (hb3.mono HB2.out.size)
          have hK3 := HK.out _ hB3
          clear hb3 z0 z1 z2 z3 z4 z5 zl
          have HB3 := Lib.hid hB3
          have HK3 := Lib.hid hK3
          clear hB3 hK3
          go_wp2_with (fail)
          with_reducible refine (HK3.out).mono ?_
          rintro e w5 ⟨rfl, hb5⟩
          have hB5 := HB3.out.trans (hb5.mono HB3.out.size)
          clear hb5
          have HB5 := Lib.hid hB5
          clear hB5
          go_wp2
          go_ret
          exact ⟨rfl, HB5.out⟩
end Go.Proofs.YtgjiienipeoajaaGreatDoor
