/- Parts, joined: commonplaceref01.Unquote: the text that is quoted from a place on. Condition: a text of at most 10^9 bytes. -/
import Derived.Test.YtgjiienipeoajaaGreatDoorProg
import Derived.Test.YtgjiienipeoajaaGreatDoorKPrs9
import Derived.Test.YtgjiienipeoajaaGreatDoorKPrs20
import Derived.Test.YtgjiienipeoajaaGreatDoorKPrs33
/- commonplaceref01.Unquote: the text that is quoted from a place on. Condition: a text of at most 10^9 bytes. -/
namespace Go.Proofs.YtgjiienipeoajaaGreatDoor
open Go Go.RowKit

/-- The place of a letter among those of escapes; 8: it is none. -/
def letIx (c : UInt8) : Nat := letTab.findIdx (fun x => x == c)
def letIxO (l : Option UInt8) : Nat := match l with
  | none => 8
  | some c => letIx c
theorem let_facts : ∀ c : Fin 256, letIx (UInt8.ofNat c.val) ≤ 8 ∧ (letIx (UInt8.ofNat c.val) = 8 → escLet (UInt8.ofNat c.val) = none) ∧ (letIx (UInt8.ofNat c.val) < 8 → (escLet (UInt8.ofNat c.val)).map (fun n : Nat => (n : Int)) = codeTab[letIx (UInt8.ofNat c.val)]?) ∧
    (∀ k : Fin 8, (k.val < letIx (UInt8.ofNat c.val) → ((UInt8.ofNat c.val).toNat == (letTab.getD k.val 0).toNat) = false) ∧ (k.val = letIx (UInt8.ofNat c.val) → ((UInt8.ofNat c.val).toNat == (letTab.getD k.val 0).toNat) = true)) := by decide +kernel
theorem let_of (c : UInt8) : letIx c ≤ 8 ∧ (letIx c = 8 → escLet c = none) ∧ (letIx c < 8 → (escLet c).map (fun n : Nat => (n : Int)) = codeTab[letIx c]?) ∧
    (∀ k, k < 8 → (k < letIx c → (c.toNat == (letTab.getD k 0).toNat) = false) ∧ (k = letIx c → (c.toNat == (letTab.getD k 0).toNat) = true)) := by
  have h := let_facts ⟨c.toNat, c.toNat_lt⟩
  simp only [UInt8.ofNat_toNat] at h
  exact ⟨h.1, h.2.1, h.2.2.1, fun k hk => h.2.2.2 ⟨k, hk⟩⟩
theorem app_size (T : ByteArray) (l : List UInt8) : (T ++ (⟨l.toArray⟩ : ByteArray)).size = T.size + l.length := by rw [ByteArray.size_append]; rfl
theorem str_app (T : ByteArray) (l : List UInt8) : (T ++ (⟨l.toArray⟩ : ByteArray)).data.toList = T.data.toList ++ l := by rw [ByteArray.data_append, Array.toList_append]
/-- What holds between two rounds. -/
def RUI (s : ByteArray) (w : World) (RES : Rd (List UInt8)) (j : Nat) (T : ByteArray) (wr : World) : Prop :=
  Below w.heap.size w wr ∧ T.size ≤ j ∧ ∃ f, unqF f s.data.toList j T.data.toList = RES ∧ s.size - j < f
theorem back_mk (T : ByteArray) : (⟨T.data.toList.toArray⟩ : ByteArray) = T := by
  apply ByteArray.ext
  simp
theorem Below.drewN' {B n : Nat} {a w w1 : World} (h : Below B a w) (hb : Below (w.drewN n).heap.size (w.drewN n) w1) (hB : B ≤ w.heap.size) : Below B a w1 := (below_drewN h n).trans (hb.mono hB)
set_option maxRecDepth 100000 in
set_option maxHeartbeats 16000000 in
theorem runq_calls (s : ByteArray) (k : Nat) (w : World) (hs : s.size ≤ 1000000000) (hk : k ≤ s.size) :
    Calls Tryz.prog 62 #[.string s, .int .i64 k] w fun e w' => e = .returned (unqR (unqAt s.data.toList k)) ∧ Below w.heap.size w w' := by
  have hlen := size_toList s
  have d0 : decide ((k : Int) < 0) = false := decide_eq_false (by omega)
  have d1 : decide (s.size < k) = false := decide_eq_false (by omega)
  by_cases hlt : k < s.size
  rotate_left
  · obtain rfl : k = s.size := by omega
    have e : unqAt s.data.toList s.size = .bad 4 s.size := by unfold unqAt; rw [if_neg (by rw [List.getElem?_eq_none (by omega)]; simp)]
    rw [e]
    simp only [unqR]
    clear e hlen hlt
    go_enter Tryz.func62, Tryz.ntmps62
    go_wp2
    exact bodyPost_ret (results_tmp3 rfl _ _ _) rfl ⟨rfl, Below.refl _ _⟩
  obtain ⟨c, hc⟩ : ∃ c, s[k] = c := ⟨_, rfl⟩
  have hg : s.data.toList[k]? = some c := by rw [get_byte s hlt, hc]
  have hcl := byte_lt c
  have ne : ∀ (c : UInt8) (n : Nat), n < 256 → c ≠ UInt8.ofNat n → ((c.toNat : Int) == (n : Int)) = false := fun c n hn h => by rw [byte_eq hn]; simpa using h
  have e1 : ((k : Int) == (s.size : Int)) = false := by rw [beq_eq_false_iff_ne]; omega
  by_cases h34 : c = 34
  rotate_left
  · have e : unqAt s.data.toList k = .bad 4 k := by unfold unqAt; rw [if_neg (by rw [hg]; simpa using h34)]
    rw [e]
    have e2 := ne c 34 (by decide) h34
    simp only [unqR]
    clear e hlen hg ne h34
    go_enter Tryz.func62, Tryz.ntmps62
    go_wp2
    exact bodyPost_ret (results_tmp3 rfl _ _ _) rfl ⟨rfl, Below.refl _ _⟩
  subst h34
  obtain ⟨RES, hRES⟩ : ∃ R, unqAt s.data.toList k = R := ⟨_, rfl⟩
  rw [hRES]
  have hF : unqF (s.data.toList.length - k) s.data.toList (k + 1) [] = RES := by
    rw [← hRES]; unfold unqAt; rw [if_pos hg]
  have H0 : Hid (RUI s w RES (k + 1) ⟨#[]⟩ w) := ⟨Below.refl _ _, Nat.zero_le _, _, hF, by omega⟩
  clear hRES hF hg hlen
  have Ne := Lib.hid ne
  clear ne
  go_enter Tryz.func62, Tryz.ntmps62
  go_wp2
  go_loopw [7, 8] (fun o i wr => ∃ (T : ByteArray) (j : Nat), o = .string T ∧ i = .int .i64 j ∧ j ≤ s.size ∧ Hid (RUI s w RES j T wr)) (fun _ i _ => s.size - (intOf i).toNat)
  case atStart => exact ⟨⟨#[]⟩, k + 1, rfl, by go_num, by omega, H0⟩
  case round =>
    obtain ⟨T, j, rfl, rfl, hj, hI⟩ := hrel
    clear H0 e1 d0 d1 hc
    clear hlt hk
    obtain ⟨wo, rfl⟩ : ∃ wo : World, wo = wr := ⟨_, rfl⟩
    obtain ⟨h1, h2, f, h3, h4⟩ := hI.out
    obtain ⟨f, rfl⟩ : ∃ g, f = g + 1 := ⟨f - 1, by omega⟩
    clear hI
    by_cases hlt : j < s.size
    rotate_left
    · obtain rfl : j = s.size := by omega
      have hR : RES = .bad 4 s.size := by
        rw [← h3]
        unfold unqF
        rw [List.getElem?_eq_none (by rw [size_toList]; exact Nat.le_refl _)]
      have H1 := Lib.hid h1
      have H3 := Lib.hid h3
      have HR := Lib.hid hR
      clear h1 h3 hR
      go_wp2
      exact bodyPost_ret (results_tmp3 rfl _ _ _) rfl ⟨by rw [HR.out]; rfl, H1.out⟩
    obtain ⟨c, hc⟩ : ∃ c, s[j] = c := ⟨_, rfl⟩
    have hg : s.data.toList[j]? = some c := by rw [get_byte s hlt, hc]
    have hcl := byte_lt c
    have hge : ¬((s.size : Int) ≤ (j : Int)) := by omega
    by_cases h34 : c = 34
    · subst h34
      have hR : RES = .ok T.data.toList (j + 1) := by
        rw [← h3]
        unfold unqF
        rw [hg]
        simp
      have H1 := Lib.hid h1
      have H3 := Lib.hid h3
      have HR := Lib.hid hR
      clear h1 h3 hR
      clear hg
      go_wp2
      exact bodyPost_ret (results_tmp3 rfl _ _ _) rfl ⟨by rw [HR.out]; simp only [unqR, back_mk]; rfl, H1.out⟩
    have e34 := Ne.out c 34 (by decide) h34
    by_cases h32 : c.toNat < 32
    · have hR : RES = .bad 4 j := by
        rw [← h3]
        unfold unqF
        rw [hg]
        simp only
        rw [if_neg h34, if_pos h32]
      have l32 : (c.toNat : Int) < 32 := by omega
      have H1 := Lib.hid h1
      have H3 := Lib.hid h3
      have HR := Lib.hid hR
      clear h1 h3 hR
      clear hg h32 h34
      go_wp2
      exact bodyPost_ret (results_tmp3 rfl _ _ _) rfl ⟨by rw [HR.out]; rfl, H1.out⟩
    have l32 : ¬((c.toNat : Int) < 32) := by omega
    by_cases h92 : c = 92
    rotate_left
    · have e92 := Ne.out c 92 (by decide) h92
      have hA := fun W => At_calls s j W (by omega) (by omega)
      have hne : s.data.toList.drop j ≠ [] := by rw [drop_at hg]; simp
      have hgood := atSpec_dec _ hne
      unfold goodAt at hgood
      rw [hgood] at hA
      have hR : RES = if (Lib.decodeL (s.data.toList.drop j)).1 = 65533 ∧ (Lib.decodeL (s.data.toList.drop j)).2 = 1 then .bad 3 j else unqF f s.data.toList (j + (Lib.decodeL (s.data.toList.drop j)).2) (T.data.toList ++ (s.data.toList.drop j).take (Lib.decodeL (s.data.toList.drop j)).2) := by
        rw [← h3]
        conv => lhs; unfold unqF
        rw [hg]
        simp only
        rw [if_neg h34, if_neg h32, if_neg h92]
      by_cases hbad : (Lib.decodeL (s.data.toList.drop j)).1 = 65533 ∧ (Lib.decodeL (s.data.toList.drop j)).2 = 1
      · rw [if_pos hbad] at hR hA
        have H1 := Lib.hid h1
        have H3 := Lib.hid h3
        have HR := Lib.hid hR
        have HA := Lib.hid hA
        clear h1 h3 hR hA
        clear hg h32 h34 h92 hne hgood hbad
        go_wp2_with (fail)
        with_reducible refine (HA.out _).mono ?_
        rintro e w2 ⟨rfl, rfl⟩
        go_wp2
        exact bodyPost_ret (results_tmp3 rfl _ _ _) rfl ⟨by rw [HR.out]; rfl, H1.out⟩
      · rw [if_neg hbad] at hR hA
        have hsc := dec_scalar hne hbad
        have hw := Lib.decodeL_width (s.data.toList.drop j)
        have hle := dec_le (by rw [size_toList]; exact hlt : j < s.data.toList.length)
        rw [size_toList] at hle
        have henc := Lib.encode_decode _ hne hbad
        obtain ⟨sc1, sc2⟩ : (Lib.decodeL (s.data.toList.drop j)).1 ≤ 1114111 ∧ ¬(55296 ≤ (Lib.decodeL (s.data.toList.drop j)).1 ∧ (Lib.decodeL (s.data.toList.drop j)).1 < 57344) := hsc
        have hB := fun W => RBytes_calls ((Lib.decodeL (s.data.toList.drop j)).1 : Int) (by omega) (by omega) (by omega) W
        rw [henc] at hB
        have hlt2 : ((s.data.toList.drop j).take (Lib.decodeL (s.data.toList.drop j)).2).length ≤ (Lib.decodeL (s.data.toList.drop j)).2 := by rw [List.length_take]; omega
        generalize (s.data.toList.drop j).take (Lib.decodeL (s.data.toList.drop j)).2 = X at hB hR hlt2
        generalize Lib.decodeL (s.data.toList.drop j) = D at hA hB hR hw hle hlt2
        obtain ⟨r, n⟩ := D
        simp only at hA hB hR hw hle hlt2
        have hnext : ∀ W', Below wo.heap.size wo W' → RUI s w RES (j + n) (T ++ ⟨X.toArray⟩) W' := fun W' a1 =>
          ⟨h1.trans (a1.mono h1.size), by rw [app_size]; omega, f, by rw [str_app]; exact hR.symm, by omega⟩
        have n0 : ((n : Int) == 0) = false := by rw [beq_eq_false_iff_ne]; omega
        have H1 := Lib.hid h1
        have H3 := Lib.hid h3
        have HR := Lib.hid hR
        have HA := Lib.hid hA
        have HB := Lib.hid hB
        have Hnext := Lib.hid hnext
        clear h1 h3 hR hA hB hnext
        clear hg h32 h34 h92 hne hgood hbad sc1 sc2 henc
        go_wp2_with (fail)
        with_reducible refine (HA.out _).mono ?_
        rintro e w2 ⟨rfl, rfl⟩
        go_wp2_with (fail)
        with_reducible refine (HB.out _).mono ?_
        rintro e w2 ⟨rfl, hb2⟩
        have HU2 := Lib.hid (Hnext.out w2 hb2)
        clear hb2
        go_wp2
        go_roundw
        case rel => exact ⟨_, j + n, rfl, by go_num, by omega, HU2⟩
        case measure => simp [intOf]; omega
    · subst h92
      have hX := fun W => rhex_calls s j W hs (by omega)
      have hR : RES = match escL (s.data.toList.drop j) with
          | .bad e _ => .bad e j
          | .ok r n => unqF f s.data.toList (j + n) (T.data.toList ++ Lib.encodeRune (r : Int)) := by
        rw [← h3]
        conv => lhs; unfold unqF
        rw [hg]
        simp only
        rw [if_neg (by decide), if_neg (by decide), if_pos trivial]
        rfl
      have hnext : ∀ (r n : Nat) (W' : World), escL (s.data.toList.drop j) = .ok r n → Below wo.heap.size wo W' → RUI s w RES (j + n) (T ++ ⟨(Lib.encodeRune (r : Int)).toArray⟩) W' ∧ j + n ≤ s.size ∧ 2 ≤ n := fun r n W' e a1 => by
        have a2 := escL_ok e
        have a3 := escL_len e
        rw [List.length_drop, size_toList] at a2
        rw [e] at hR
        exact ⟨⟨h1.trans (a1.mono h1.size), by rw [app_size]; omega, f, by rw [str_app]; exact hR.symm, by omega⟩, by omega, a2.2.2.1⟩
      have hBy : ∀ (r n : Nat) (W : World), escL (s.data.toList.drop j) = .ok r n → Calls Tryz.prog 38 #[.int .i64 r] W fun e w' => e = .returned (.string ⟨(Lib.encodeRune r).toArray⟩) ∧ Below W.heap.size W w' := fun r n W e => by
        have a2 := escL_ok e
        exact RBytes_calls (r : Int) (by omega) (by omega) (by omega) W
      cases hu : unitL (s.data.toList.drop j) with
      | none =>
        have he : escL (s.data.toList.drop j) = letL (s.data.toList.drop j) := by unfold escL; rw [hu]
        rw [hu] at hX
        simp only [hexR] at hX
        have hg1 : (s.data.toList.drop j)[1]? = s.data.toList[j + 1]? := by rw [List.getElem?_drop]
        have hb0 : Hid (Below wo.heap.size wo wo) := Below.refl _ _
        by_cases hin : j + 1 < s.size
        · obtain ⟨x, hx⟩ : ∃ x, s[j + 1] = x := ⟨_, rfl⟩
          have hgx : s.data.toList[j + 1]? = some x := by rw [get_byte s hin, hx]
          have hxl := byte_lt x
          obtain ⟨t1, t2, t3, t4⟩ := let_of x
          have he' : escL (s.data.toList.drop j) = match escLet x with
              | none => .bad 4 0
              | some r => .ok r 2 := by
            rw [he]
            unfold letL
            rw [hg1, hgx]
            rfl
          have hcmp : ∀ q, q < 8 → (q < letIx x → ((x.toNat : Int) == ((letTab.getD q 0).toNat : Int)) = false) ∧ (q = letIx x → ((x.toNat : Int) == ((letTab.getD q 0).toNat : Int)) = true) := by
            intro q hq
            have key : ((x.toNat : Int) == ((letTab.getD q 0).toNat : Int)) = (x.toNat == (letTab.getD q 0).toNat) := by
              rw [Bool.eq_iff_iff]; simp only [beq_iff_eq]; omega
            rw [key]
            exact t4 q hq
          have i0 : (0 : Int) ≤ (j : Int) + 1 := by omega
          have i1 : (j : Int) + 1 < (s.size : Int) := by omega
          have i2 : decide ((s.size : Int) ≤ (j : Int) + 1) = false := decide_eq_false (by omega)
          have hc0 := (hcmp 0 (by omega))
          have hc1 := (hcmp 1 (by omega))
          have hc2 := (hcmp 2 (by omega))
          have hc3 := (hcmp 3 (by omega))
          have hc4 := (hcmp 4 (by omega))
          have hc5 := (hcmp 5 (by omega))
          have hc6 := (hcmp 6 (by omega))
          have hc7 := (hcmp 7 (by omega))
          simp only [letTab, List.getD_cons_zero, List.getD_cons_succ] at hc0 hc1 hc2 hc3 hc4 hc5 hc6 hc7
          clear hcmp t4
          generalize letIx x = L at hc0 hc1 hc2 hc3 hc4 hc5 hc6 hc7 t1 t2 t3
          have H1 := Lib.hid h1
          have H3 := Lib.hid h3
          have HR := Lib.hid hR
          have HX := Lib.hid hX
          have Hnext := Lib.hid hnext
          have HBy := Lib.hid hBy
          have Hc0 := Lib.hid hc0
          have Hc1 := Lib.hid hc1
          have Hc2 := Lib.hid hc2
          have Hc3 := Lib.hid hc3
          have Hc4 := Lib.hid hc4
          have Hc5 := Lib.hid hc5
          have Hc6 := Lib.hid hc6
          have Hc7 := Lib.hid hc7
          have T2 := Lib.hid t2
          have T3 := Lib.hid t3
          have He' := Lib.hid he'
          clear h1 h3 hR hX hnext hBy hc0 hc1 hc2 hc3 hc4 hc5 hc6 hc7 t2 t3 he'
          clear hg h32 h34 he hu hg1 hgx
          go_wp2_with (fail)
          with_reducible refine (HX.out _).mono ?_
          rintro e w2 ⟨rfl, rfl⟩
          go_wp2
          go_loopw [13] (fun kk wr => ∃ q : Nat, kk = .int .i64 q ∧ q ≤ L ∧ Hid (Below wo.heap.size wo wr)) (fun kk _ => 8 - (intOf kk).toNat)
          case atStart => exact ⟨0, rfl, Nat.zero_le _, hb0⟩
          case round =>
            obtain ⟨q, rfl, hq, hb⟩ := hrel
            clear hb0
            by_cases hql : q < L
            · have hnx : ∀ (n : Nat), Hid (Below wo.heap.size wo (wr.drewN n)) := fun n => below_drewN hb.out n
              rcases (by omega : q = 0 ∨ q = 1 ∨ q = 2 ∨ q = 3 ∨ q = 4 ∨ q = 5 ∨ q = 6 ∨ q = 7) with rfl | rfl | rfl | rfl | rfl | rfl | rfl | rfl
              · have g0 : (⟨#[34, 92, 47, 98, 102, 110, 114, 116]⟩ : ByteArray)[0]'(by decide) = 34 := rfl
                have f0 := Hc0.out.1 hql
                have f1 : ((x.toNat : Int) != 34) = true := by unfold bne; rw [show ((x.toNat : Int) == 34) = false from f0]; rfl
                go_wp2
                go_quiet (fail)
                go_wp2
                go_roundw
                case rel => exact ⟨0 + 1, by first | rfl | go_num, by omega, hnx _⟩
                case measure => simp [intOf]
              · have g0 : (⟨#[34, 92, 47, 98, 102, 110, 114, 116]⟩ : ByteArray)[1]'(by decide) = 92 := rfl
                have f0 := Hc1.out.1 hql
                have f1 : ((x.toNat : Int) != 92) = true := by unfold bne; rw [show ((x.toNat : Int) == 92) = false from f0]; rfl
                go_wp2
                go_quiet (fail)
                go_wp2
                go_roundw
                case rel => exact ⟨1 + 1, by first | rfl | go_num, by omega, hnx _⟩
                case measure => simp [intOf]
              · have g0 : (⟨#[34, 92, 47, 98, 102, 110, 114, 116]⟩ : ByteArray)[2]'(by decide) = 47 := rfl
                have f0 := Hc2.out.1 hql
                have f1 : ((x.toNat : Int) != 47) = true := by unfold bne; rw [show ((x.toNat : Int) == 47) = false from f0]; rfl
                go_wp2
                go_quiet (fail)
                go_wp2
                go_roundw
                case rel => exact ⟨2 + 1, by first | rfl | go_num, by omega, hnx _⟩
                case measure => simp [intOf]
              · have g0 : (⟨#[34, 92, 47, 98, 102, 110, 114, 116]⟩ : ByteArray)[3]'(by decide) = 98 := rfl
                have f0 := Hc3.out.1 hql
                have f1 : ((x.toNat : Int) != 98) = true := by unfold bne; rw [show ((x.toNat : Int) == 98) = false from f0]; rfl
                go_wp2
                go_quiet (fail)
                go_wp2
                go_roundw
                case rel => exact ⟨3 + 1, by first | rfl | go_num, by omega, hnx _⟩
                case measure => simp [intOf]
              · have g0 : (⟨#[34, 92, 47, 98, 102, 110, 114, 116]⟩ : ByteArray)[4]'(by decide) = 102 := rfl
                have f0 := Hc4.out.1 hql
                have f1 : ((x.toNat : Int) != 102) = true := by unfold bne; rw [show ((x.toNat : Int) == 102) = false from f0]; rfl
                go_wp2
                go_quiet (fail)
                go_wp2
                go_roundw
                case rel => exact ⟨4 + 1, by first | rfl | go_num, by omega, hnx _⟩
                case measure => simp [intOf]
              · have g0 : (⟨#[34, 92, 47, 98, 102, 110, 114, 116]⟩ : ByteArray)[5]'(by decide) = 110 := rfl
                have f0 := Hc5.out.1 hql
                have f1 : ((x.toNat : Int) != 110) = true := by unfold bne; rw [show ((x.toNat : Int) == 110) = false from f0]; rfl
                go_wp2
                go_quiet (fail)
                go_wp2
                go_roundw
                case rel => exact ⟨5 + 1, by first | rfl | go_num, by omega, hnx _⟩
                case measure => simp [intOf]
              · have g0 : (⟨#[34, 92, 47, 98, 102, 110, 114, 116]⟩ : ByteArray)[6]'(by decide) = 114 := rfl
                have f0 := Hc6.out.1 hql
                have f1 : ((x.toNat : Int) != 114) = true := by unfold bne; rw [show ((x.toNat : Int) == 114) = false from f0]; rfl
                go_wp2
                go_quiet (fail)
                go_wp2
                go_roundw
                case rel => exact ⟨6 + 1, by first | rfl | go_num, by omega, hnx _⟩
                case measure => simp [intOf]
              · have g0 : (⟨#[34, 92, 47, 98, 102, 110, 114, 116]⟩ : ByteArray)[7]'(by decide) = 116 := rfl
                have f0 := Hc7.out.1 hql
                have f1 : ((x.toNat : Int) != 116) = true := by unfold bne; rw [show ((x.toNat : Int) == 116) = false from f0]; rfl
                go_wp2
                go_quiet (fail)
                go_wp2
                go_roundw
                case rel => exact ⟨7 + 1, by first | rfl | go_num, by omega, hnx _⟩
                case measure => simp [intOf]
            · obtain rfl : q = L := by omega
              clear hql hq
              by_cases h8 : q = 8
              · subst h8
                have hR' : RES = .bad 4 j := by
                  have := HR.out
                  rw [He'.out, T2.out rfl] at this
                  exact this
                have hnx : ∀ (n : Nat), Hid (Below w.heap.size w (wr.drewN n)) := fun n => H1.out.trans ((below_drewN hb.out n).mono H1.out.size)
                have HR' := Lib.hid hR'
                clear hR'
                go_wp2
                go_quiet (fail)
                go_wp2
                exact bodyPost_ret (results_tmp3 rfl _ _ _) rfl ⟨by rw [HR'.out]; rfl, hnx _⟩
              · obtain ⟨r, hr, hcd⟩ : ∃ r : Nat, escLet x = some r ∧ codeTab[q]? = some (r : Int) := by
                  have hq8 : q < 8 := by omega
                  have h := T3.out hq8
                  have hcs : ∃ c, codeTab[q]? = some c := ⟨_, List.getElem?_eq_getElem hq8⟩
                  obtain ⟨c, hcs⟩ := hcs
                  rw [hcs] at h
                  cases hE : escLet x with
                  | none => rw [hE] at h; cases h
                  | some r => rw [hE] at h; exact ⟨r, rfl, by rw [hcs, ← h]; rfl⟩
                have he2 : escL (s.data.toList.drop j) = .ok r 2 := by rw [He'.out, hr]
                have hBy' := fun W => HBy.out r 2 W he2
                have hnext' := fun W' => Hnext.out r 2 W' he2
                have hCd := fun W => RCode_calls q (r : Int) hcd W
                have hX4 := enc_len (r : Int)
                have hq8 : q < 8 := by omega
                generalize Lib.encodeRune (r : Int) = X at hBy' hnext' hX4
                have hj2 := (hnext' wo (Below.refl _ _)).2.1
                have HBy' := Lib.hid hBy'
                have Hnext' := Lib.hid hnext'
                have HCd := Lib.hid hCd
                clear hBy' hnext' hCd
                clear he2 hr hcd
                rcases (by omega : q = 0 ∨ q = 1 ∨ q = 2 ∨ q = 3 ∨ q = 4 ∨ q = 5 ∨ q = 6 ∨ q = 7) with rfl | rfl | rfl | rfl | rfl | rfl | rfl | rfl
                · have g0 : (⟨#[34, 92, 47, 98, 102, 110, 114, 116]⟩ : ByteArray)[0]'(by decide) = 34 := rfl
                  have hcq : ∀ W, Calls Tryz.prog 37 #[.int .i64 0] W (fun e w' => e = .returned (.int .i64 (r : Int)) ∧ Below W.heap.size W w') := HCd.out
                  have HCq := Lib.hid hcq
                  clear hcq
                  have f0 := Hc0.out.2 rfl
                  have f1 : ((x.toNat : Int) != 34) = false := by unfold bne; rw [show ((x.toNat : Int) == 34) = true from f0]; rfl
                  go_wp2
                  go_quiet (fail)
                  go_wp2_with (fail)
                  with_reducible refine (HCq.out _).mono ?_
                  rintro e w2 ⟨rfl, hb2⟩
                  have HB2 := Lib.hid (Below.drewN' hb.out hb2 hb.out.size)
                  clear hb2
                  go_wp2_with (fail)
                  with_reducible refine (HBy'.out _).mono ?_
                  rintro e w3 ⟨rfl, hb3⟩
                  have HU2 := Lib.hid (Hnext'.out w3 (HB2.out.trans (hb3.mono HB2.out.size))).1
                  clear hb3
                  go_wp2
                  go_roundw
                  case rel => exact ⟨_, j + 2, rfl, by go_num, by omega, HU2⟩
                  case measure => simp [intOf]; omega
                · have g0 : (⟨#[34, 92, 47, 98, 102, 110, 114, 116]⟩ : ByteArray)[1]'(by decide) = 92 := rfl
                  have hcq : ∀ W, Calls Tryz.prog 37 #[.int .i64 1] W (fun e w' => e = .returned (.int .i64 (r : Int)) ∧ Below W.heap.size W w') := HCd.out
                  have HCq := Lib.hid hcq
                  clear hcq
                  have f0 := Hc1.out.2 rfl
                  have f1 : ((x.toNat : Int) != 92) = false := by unfold bne; rw [show ((x.toNat : Int) == 92) = true from f0]; rfl
                  go_wp2
                  go_quiet (fail)
                  go_wp2_with (fail)
                  with_reducible refine (HCq.out _).mono ?_
                  rintro e w2 ⟨rfl, hb2⟩
                  have HB2 := Lib.hid (Below.drewN' hb.out hb2 hb.out.size)
                  clear hb2
                  go_wp2_with (fail)
                  with_reducible refine (HBy'.out _).mono ?_
                  rintro e w3 ⟨rfl, hb3⟩
                  have HU2 := Lib.hid (Hnext'.out w3 (HB2.out.trans (hb3.mono HB2.out.size))).1
                  clear hb3
                  go_wp2
                  go_roundw
                  case rel => exact ⟨_, j + 2, rfl, by go_num, by omega, HU2⟩
                  case measure => simp [intOf]; omega
                · have g0 : (⟨#[34, 92, 47, 98, 102, 110, 114, 116]⟩ : ByteArray)[2]'(by decide) = 47 := rfl
                  have hcq : ∀ W, Calls Tryz.prog 37 #[.int .i64 2] W (fun e w' => e = .returned (.int .i64 (r : Int)) ∧ Below W.heap.size W w') := HCd.out
                  have HCq := Lib.hid hcq
                  clear hcq
                  have f0 := Hc2.out.2 rfl
                  have f1 : ((x.toNat : Int) != 47) = false := by unfold bne; rw [show ((x.toNat : Int) == 47) = true from f0]; rfl
                  go_wp2
                  go_quiet (fail)
                  go_wp2_with (fail)
                  with_reducible refine (HCq.out _).mono ?_
                  rintro e w2 ⟨rfl, hb2⟩
                  have HB2 := Lib.hid (Below.drewN' hb.out hb2 hb.out.size)
                  clear hb2
                  go_wp2_with (fail)
                  with_reducible refine (HBy'.out _).mono ?_
                  rintro e w3 ⟨rfl, hb3⟩
                  have HU2 := Lib.hid (Hnext'.out w3 (HB2.out.trans (hb3.mono HB2.out.size))).1
                  clear hb3
                  go_wp2
                  go_roundw
                  case rel => exact ⟨_, j + 2, rfl, by go_num, by omega, HU2⟩
                  case measure => simp [intOf]; omega
                · have g0 : (⟨#[34, 92, 47, 98, 102, 110, 114, 116]⟩ : ByteArray)[3]'(by decide) = 98 := rfl
                  have hcq : ∀ W, Calls Tryz.prog 37 #[.int .i64 3] W (fun e w' => e = .returned (.int .i64 (r : Int)) ∧ Below W.heap.size W w') := HCd.out
                  have HCq := Lib.hid hcq
                  clear hcq
                  have f0 := Hc3.out.2 rfl
                  have f1 : ((x.toNat : Int) != 98) = false := by unfold bne; rw [show ((x.toNat : Int) == 98) = true from f0]; rfl
                  go_wp2
                  go_quiet (fail)
                  go_wp2_with (fail)
                  with_reducible refine (HCq.out _).mono ?_
                  rintro e w2 ⟨rfl, hb2⟩
                  have HB2 := Lib.hid (Below.drewN' hb.out hb2 hb.out.size)
                  clear hb2
                  go_wp2_with (fail)
                  with_reducible refine (HBy'.out _).mono ?_
                  rintro e w3 ⟨rfl, hb3⟩
                  have HU2 := Lib.hid (Hnext'.out w3 (HB2.out.trans (hb3.mono HB2.out.size))).1
                  clear hb3
                  go_wp2
                  go_roundw
                  case rel => exact ⟨_, j + 2, rfl, by go_num, by omega, HU2⟩
                  case measure => simp [intOf]; omega
                · have g0 : (⟨#[34, 92, 47, 98, 102, 110, 114, 116]⟩ : ByteArray)[4]'(by decide) = 102 := rfl
                  have hcq : ∀ W, Calls Tryz.prog 37 #[.int .i64 4] W (fun e w' => e = .returned (.int .i64 (r : Int)) ∧ Below W.heap.size W w') := HCd.out
                  have HCq := Lib.hid hcq
                  clear hcq
                  have f0 := Hc4.out.2 rfl
                  have f1 : ((x.toNat : Int) != 102) = false := by unfold bne; rw [show ((x.toNat : Int) == 102) = true from f0]; rfl
                  go_wp2
                  go_quiet (fail)
                  go_wp2_with (fail)
                  with_reducible refine (HCq.out _).mono ?_
                  rintro e w2 ⟨rfl, hb2⟩
                  have HB2 := Lib.hid (Below.drewN' hb.out hb2 hb.out.size)
                  clear hb2
                  go_wp2_with (fail)
                  with_reducible refine (HBy'.out _).mono ?_
                  rintro e w3 ⟨rfl, hb3⟩
                  have HU2 := Lib.hid (Hnext'.out w3 (HB2.out.trans (hb3.mono HB2.out.size))).1
                  clear hb3
                  go_wp2
                  go_roundw
                  case rel => exact ⟨_, j + 2, rfl, by go_num, by omega, HU2⟩
                  case measure => simp [intOf]; omega
                · have g0 : (⟨#[34, 92, 47, 98, 102, 110, 114, 116]⟩ : ByteArray)[5]'(by decide) = 110 := rfl
                  have hcq : ∀ W, Calls Tryz.prog 37 #[.int .i64 5] W (fun e w' => e = .returned (.int .i64 (r : Int)) ∧ Below W.heap.size W w') := HCd.out
                  have HCq := Lib.hid hcq
                  clear hcq
                  have f0 := Hc5.out.2 rfl
                  have f1 : ((x.toNat : Int) != 110) = false := by unfold bne; rw [show ((x.toNat : Int) == 110) = true from f0]; rfl
                  go_wp2
                  go_quiet (fail)
                  go_wp2_with (fail)
                  with_reducible refine (HCq.out _).mono ?_
                  rintro e w2 ⟨rfl, hb2⟩
                  have HB2 := Lib.hid (Below.drewN' hb.out hb2 hb.out.size)
                  clear hb2
                  go_wp2_with (fail)
                  with_reducible refine (HBy'.out _).mono ?_
                  rintro e w3 ⟨rfl, hb3⟩
                  have HU2 := Lib.hid (Hnext'.out w3 (HB2.out.trans (hb3.mono HB2.out.size))).1
                  clear hb3
                  go_wp2
                  go_roundw
                  case rel => exact ⟨_, j + 2, rfl, by go_num, by omega, HU2⟩
                  case measure => simp [intOf]; omega
                · have g0 : (⟨#[34, 92, 47, 98, 102, 110, 114, 116]⟩ : ByteArray)[6]'(by decide) = 114 := rfl
                  have hcq : ∀ W, Calls Tryz.prog 37 #[.int .i64 6] W (fun e w' => e = .returned (.int .i64 (r : Int)) ∧ Below W.heap.size W w') := HCd.out
                  have HCq := Lib.hid hcq
                  clear hcq
                  have f0 := Hc6.out.2 rfl
                  have f1 : ((x.toNat : Int) != 114) = false := by unfold bne; rw [show ((x.toNat : Int) == 114) = true from f0]; rfl
                  go_wp2
                  go_quiet (fail)
                  go_wp2_with (fail)
                  with_reducible refine (HCq.out _).mono ?_
                  rintro e w2 ⟨rfl, hb2⟩
                  have HB2 := Lib.hid (Below.drewN' hb.out hb2 hb.out.size)
                  clear hb2
                  go_wp2_with (fail)
                  with_reducible refine (HBy'.out _).mono ?_
                  rintro e w3 ⟨rfl, hb3⟩
                  have HU2 := Lib.hid (Hnext'.out w3 (HB2.out.trans (hb3.mono HB2.out.size))).1
                  clear hb3
                  go_wp2
                  go_roundw
                  case rel => exact ⟨_, j + 2, rfl, by go_num, by omega, HU2⟩
                  case measure => simp [intOf]; omega
                · have g0 : (⟨#[34, 92, 47, 98, 102, 110, 114, 116]⟩ : ByteArray)[7]'(by decide) = 116 := rfl
                  have hcq : ∀ W, Calls Tryz.prog 37 #[.int .i64 7] W (fun e w' => e = .returned (.int .i64 (r : Int)) ∧ Below W.heap.size W w') := HCd.out
                  have HCq := Lib.hid hcq
                  clear hcq
                  have f0 := Hc7.out.2 rfl
                  have f1 : ((x.toNat : Int) != 116) = false := by unfold bne; rw [show ((x.toNat : Int) == 116) = true from f0]; rfl
                  go_wp2
                  go_quiet (fail)
                  go_wp2_with (fail)
                  with_reducible refine (HCq.out _).mono ?_
                  rintro e w2 ⟨rfl, hb2⟩
                  have HB2 := Lib.hid (Below.drewN' hb.out hb2 hb.out.size)
                  clear hb2
                  go_wp2_with (fail)
                  with_reducible refine (HBy'.out _).mono ?_
                  rintro e w3 ⟨rfl, hb3⟩
                  have HU2 := Lib.hid (Hnext'.out w3 (HB2.out.trans (hb3.mono HB2.out.size))).1
                  clear hb3
                  go_wp2
                  go_roundw
                  case rel => exact ⟨_, j + 2, rfl, by go_num, by omega, HU2⟩
                  case measure => simp [intOf]; omega
        · have he' : escL (s.data.toList.drop j) = .bad 4 0 := by
            rw [he]
            unfold letL
            rw [hg1, List.getElem?_eq_none (by rw [size_toList]; omega)]
          rw [he'] at hR
          simp only at hR
          have i2 : decide ((s.size : Int) ≤ (j : Int) + 1) = true := decide_eq_true (by omega)
          have H1 := Lib.hid h1
          have H3 := Lib.hid h3
          have HR := Lib.hid hR
          have HX := Lib.hid hX
          have Hnext := Lib.hid hnext
          have HBy := Lib.hid hBy
          clear h1 h3 hR hX hnext hBy
          clear hg h32 h34 he he' hu hg1 hin
          go_wp2_with (fail)
          with_reducible refine (HX.out _).mono ?_
          rintro e w2 ⟨rfl, rfl⟩
          go_wp2
          go_loopw [13] (fun kk wr => ∃ q : Nat, kk = .int .i64 q ∧ q ≤ 8 ∧ Hid (Below wo.heap.size wo wr)) (fun kk _ => 8 - (intOf kk).toNat)
          case atStart => exact ⟨0, rfl, Nat.zero_le _, hb0⟩
          case round =>
            obtain ⟨q, rfl, hq, hb⟩ := hrel
            clear hb0
            by_cases hql : q < 8
            · have hnx : ∀ (n : Nat), Hid (Below wo.heap.size wo (wr.drewN n)) := fun n => below_drewN hb.out n
              have l8 : decide ((q : Int) < 8) = true := decide_eq_true (by omega)
              go_wp2
              go_quiet (fail)
              go_wp2
              go_roundw
              case rel => exact ⟨q + 1, by go_num, by omega, hnx _⟩
              case measure => simp [intOf]; omega
            · obtain rfl : q = 8 := by omega
              have hnx : ∀ (n : Nat), Hid (Below w.heap.size w (wr.drewN n)) := fun n => H1.out.trans ((below_drewN hb.out n).mono H1.out.size)
              clear hql
              go_wp2
              go_quiet (fail)
              go_wp2
              exact bodyPost_ret (results_tmp3 rfl _ _ _) rfl ⟨by rw [HR.out]; rfl, hnx _⟩
      | some u =>
        obtain ⟨hu1, hu2⟩ := unitL_lt hu
        rw [List.length_drop, size_toList] at hu2
        have he : escL (s.data.toList.drop j) = pairL u (s.data.toList.drop (j + 6)) := by unfold escL; rw [hu]; simp only [List.drop_drop]
        rw [hu] at hX
        simp only [hexR] at hX
        by_cases hs1 : 55296 ≤ u ∧ u < 57344
        · obtain ⟨s1, s2⟩ := hs1
          have l1 : decide ((55296 : Int) ≤ (u : Int)) = true := decide_eq_true (by omega)
          have l2 : decide ((u : Int) < 57344) = true := decide_eq_true (by omega)
          have hX2 := fun W => rhex_calls s (j + 6) W hs (by omega)
          have ej : ((j + 6 : Nat) : Int) = (j : Int) + 6 := by omega
          rw [ej] at hX2
          clear ej
          by_cases hs2 : 56320 ≤ u
          · have he2 : escL (s.data.toList.drop j) = .bad 3 0 := by rw [he]; unfold pairL; rw [if_neg (by omega), if_pos hs2]
            rw [he2] at hR
            simp only at hR
            have l3 : decide ((56320 : Int) ≤ (u : Int)) = true := decide_eq_true (by omega)
            generalize hexR (unitL (s.data.toList.drop (j + 6))) = M at hX2
            have H1 := Lib.hid h1
            have H3 := Lib.hid h3
            have HR := Lib.hid hR
            have HX := Lib.hid hX
            have HX2 := Lib.hid hX2
            have Hnext := Lib.hid hnext
            have HBy := Lib.hid hBy
            clear h1 h3 hR hX hX2 hnext hBy
            clear hg h32 h34 he he2 hu
            go_wp2_with (fail)
            with_reducible refine (HX.out _).mono ?_
            rintro e w2 ⟨rfl, rfl⟩
            go_wp2_with (fail)
            with_reducible refine (HX2.out _).mono ?_
            rintro e w2 ⟨rfl, rfl⟩
            go_wp2
            exact bodyPost_ret (results_tmp3 rfl _ _ _) rfl ⟨by rw [HR.out]; rfl, H1.out⟩
          have l3 : decide ((56320 : Int) ≤ (u : Int)) = false := decide_eq_false (by omega)
          cases hm : unitL (s.data.toList.drop (j + 6)) with
          | none =>
            have he2 : escL (s.data.toList.drop j) = .bad 3 0 := by rw [he]; unfold pairL; rw [if_neg (by omega), if_neg hs2, hm]
            rw [he2] at hR
            simp only at hR
            rw [hm] at hX2
            simp only [hexR] at hX2
            have H1 := Lib.hid h1
            have H3 := Lib.hid h3
            have HR := Lib.hid hR
            have HX := Lib.hid hX
            have HX2 := Lib.hid hX2
            have Hnext := Lib.hid hnext
            have HBy := Lib.hid hBy
            clear h1 h3 hR hX hX2 hnext hBy
            clear hg h32 h34 he he2 hu hm
            go_wp2_with (fail)
            with_reducible refine (HX.out _).mono ?_
            rintro e w2 ⟨rfl, rfl⟩
            go_wp2_with (fail)
            with_reducible refine (HX2.out _).mono ?_
            rintro e w2 ⟨rfl, rfl⟩
            go_wp2
            exact bodyPost_ret (results_tmp3 rfl _ _ _) rfl ⟨by rw [HR.out]; rfl, H1.out⟩
          | some m =>
            obtain ⟨hm1, hm2⟩ := unitL_lt hm
            rw [hm] at hX2
            simp only [hexR] at hX2
            by_cases hs3 : m < 56320 ∨ 57344 ≤ m
            · have he2 : escL (s.data.toList.drop j) = .bad 3 0 := by rw [he]; unfold pairL; rw [if_neg (by omega), if_neg hs2, hm]; simp only; rw [if_pos hs3]
              rw [he2] at hR
              simp only at hR
              have H1 := Lib.hid h1
              have H3 := Lib.hid h3
              have HR := Lib.hid hR
              have HX := Lib.hid hX
              have HX2 := Lib.hid hX2
              have Hnext := Lib.hid hnext
              have HBy := Lib.hid hBy
              clear h1 h3 hR hX hX2 hnext hBy
              clear hg h32 h34 he he2 hu hm
              rcases hs3 with hs3 | hs3
              · have l4 : decide ((m : Int) < 56320) = true := decide_eq_true (by omega)
                clear hs3
                go_wp2_with (fail)
                with_reducible refine (HX.out _).mono ?_
                rintro e w2 ⟨rfl, rfl⟩
                go_wp2_with (fail)
                with_reducible refine (HX2.out _).mono ?_
                rintro e w2 ⟨rfl, rfl⟩
                go_wp2
                exact bodyPost_ret (results_tmp3 rfl _ _ _) rfl ⟨by rw [HR.out]; rfl, H1.out⟩
              · have l4 : decide ((m : Int) < 56320) = false := decide_eq_false (by omega)
                have l5 : decide ((57344 : Int) ≤ (m : Int)) = true := decide_eq_true (by omega)
                clear hs3
                go_wp2_with (fail)
                with_reducible refine (HX.out _).mono ?_
                rintro e w2 ⟨rfl, rfl⟩
                go_wp2_with (fail)
                with_reducible refine (HX2.out _).mono ?_
                rintro e w2 ⟨rfl, rfl⟩
                go_wp2
                exact bodyPost_ret (results_tmp3 rfl _ _ _) rfl ⟨by rw [HR.out]; rfl, H1.out⟩
            · have he2 : escL (s.data.toList.drop j) = .ok (65536 + 1024 * (u - 55296) + (m - 56320)) 12 := by rw [he]; unfold pairL; rw [if_neg (by omega), if_neg hs2, hm]; simp only; rw [if_neg hs3]
              have l4 : decide ((m : Int) < 56320) = false := decide_eq_false (by omega)
              have l5 : decide ((57344 : Int) ≤ (m : Int)) = false := decide_eq_false (by omega)
              have hBy' := fun W => hBy _ _ W he2
              have hnext' := fun W' => hnext _ _ W' he2
              have eq : (((65536 + 1024 * (u - 55296) + (m - 56320) : Nat)) : Int) = 65536 + 1024 * ((u : Int) - 55296) + (m : Int) - 56320 := by omega
              rw [eq] at hBy' hnext'
              have hX4 := enc_len (65536 + 1024 * ((u : Int) - 55296) + (m : Int) - 56320)
              generalize Lib.encodeRune (65536 + 1024 * ((u : Int) - 55296) + (m : Int) - 56320) = X at hBy' hnext' hX4
              have hj12 := (hnext' wo (Below.refl _ _)).2.1
              have H1 := Lib.hid h1
              have H3 := Lib.hid h3
              have HR := Lib.hid hR
              have HX := Lib.hid hX
              have HX2 := Lib.hid hX2
              have Hnext := Lib.hid hnext
              have HBy := Lib.hid hBy
              have HBy' := Lib.hid hBy'
              have Hnext' := Lib.hid hnext'
              clear h1 h3 hR hX hX2 hnext hBy hBy' hnext'
              clear hg h32 h34 he he2 hu hm hs3 hs2 eq
              go_wp2_with (fail)
              with_reducible refine (HX.out _).mono ?_
              rintro e w2 ⟨rfl, rfl⟩
              go_wp2_with (fail)
              with_reducible refine (HX2.out _).mono ?_
              rintro e w2 ⟨rfl, rfl⟩
              go_wp2_with (fail)
              with_reducible refine (HBy'.out _).mono ?_
              rintro e w2 ⟨rfl, hb2⟩
              have HU2 := Lib.hid (Hnext'.out w2 hb2).1
              clear hb2
              go_wp2
              go_roundw
              case rel => exact ⟨_, j + 12, rfl, by go_num, by omega, HU2⟩
              case measure => simp [intOf]; omega
        · have he2 : escL (s.data.toList.drop j) = .ok u 6 := by rw [he]; unfold pairL; rw [if_pos (by omega)]
          have hBy' := fun W => hBy _ _ W he2
          have hnext' := fun W' => hnext _ _ W' he2
          have l0 : decide ((0 : Int) ≤ (u : Int)) = true := decide_eq_true (by omega)
          have hX4 := enc_len (u : Int)
          generalize Lib.encodeRune (u : Int) = X at hBy' hnext' hX4
          have H1 := Lib.hid h1
          have H3 := Lib.hid h3
          have HR := Lib.hid hR
          have HX := Lib.hid hX
          have Hnext := Lib.hid hnext
          have HBy := Lib.hid hBy
          have HBy' := Lib.hid hBy'
          have Hnext' := Lib.hid hnext'
          clear h1 h3 hR hX hnext hBy hBy' hnext'
          clear hg h32 h34 he he2 hu
          rcases (by omega : u < 55296 ∨ (55296 ≤ u ∧ 57344 ≤ u)) with hs3 | ⟨hs3, hs4⟩
          · have l1 : decide ((55296 : Int) ≤ (u : Int)) = false := decide_eq_false (by omega)
            clear hs1 hs3
            go_wp2_with (fail)
            with_reducible refine (HX.out _).mono ?_
            rintro e w2 ⟨rfl, rfl⟩
            go_wp2_with (fail)
            with_reducible refine (HBy'.out _).mono ?_
            rintro e w2 ⟨rfl, hb2⟩
            have HU2 := Lib.hid (Hnext'.out w2 hb2).1
            clear hb2
            go_wp2
            go_roundw
            case rel => exact ⟨_, j + 6, rfl, by go_num, by omega, HU2⟩
            case measure => simp [intOf]; omega
          · have l1 : decide ((55296 : Int) ≤ (u : Int)) = true := decide_eq_true (by omega)
            have l2 : decide ((u : Int) < 57344) = false := decide_eq_false (by omega)
            clear hs1 hs3 hs4
            go_wp2_with (fail)
            with_reducible refine (HX.out _).mono ?_
            rintro e w2 ⟨rfl, rfl⟩
            go_wp2_with (fail)
            with_reducible refine (HBy'.out _).mono ?_
            rintro e w2 ⟨rfl, hb2⟩
            have HU2 := Lib.hid (Hnext'.out w2 hb2).1
            clear hb2
            go_wp2
            go_roundw
            case rel => exact ⟨_, j + 6, rfl, by go_num, by omega, HU2⟩
            case measure => simp [intOf]; omega
end Go.Proofs.YtgjiienipeoajaaGreatDoor
