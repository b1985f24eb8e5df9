/- Parts, joined: commonplaceref04.number: what the plain reader reads. Condition: a text of at most 10^9 bytes. commonplaceref04.list, where 'value' keeps its promise at a smaller fuel. Condition: a text of at most 1.6*10^7 bytes. -/
import Derived.Test.YtgjiienipeoajaaGreatDoorProg
import Derived.LoopTactic
import Derived.Deep.LoopGhost
import Derived.Deep.AppendLies
import Derived.Test.YtgjiienipeoajaaGreatDoorKPrs11
import Derived.Test.YtgjiienipeoajaaGreatDoorKPrs13
import Derived.Test.YtgjiienipeoajaaGreatDoorKPrs20
import Derived.Test.YtgjiienipeoajaaGreatDoorKPrs24
import Derived.Test.YtgjiienipeoajaaGreatDoorKPrs32
/- commonplaceref04.number: what the plain reader reads. Condition: a text of at most 10^9 bytes. -/
namespace Go.Proofs.YtgjiienipeoajaaGreatDoor
open Go Go.RowKit

/-- The first variable of a call that holds its result. -/
structure RBx (w W : World) (cs : Array Value) : Prop where
  below : Below w.heap.size w W
  blk : Blk W w.heap.size 26 cs
theorem RBx.start (w : World) : RBx w (w.alloc (.cells zero6 26)) zero6 := ⟨alloc_below w _, Blk.new _ _ _⟩
theorem RBx.later {w W W' : World} {cs : Array Value} (h : RBx w W cs) (t : Below W.heap.size W W') : RBx w W' cs := ⟨h.below.trans (t.mono h.below.size), h.blk.below t h.blk.lt⟩
theorem RBx.many {w W : World} {b0 b1 b2 b3 b4 b5 : Value} (h : RBx w W #[b0, b1, b2, b3, b4, b5]) (a0 a1 a2 a3 a4 a5 : Value) : RBx w (setMany W w.heap.size 0 [a0, a1, a2, a3, a4, a5]) #[a0, a1, a2, a3, a4, a5] :=
  ⟨setMany_below _ h.below (Nat.le_refl _), ((((((h.blk.set_ 0 a0).set_ 1 a1).set_ 2 a2).set_ 3 a3).set_ 4 a4).set_ 5 a5)⟩
/-- What the reference comes to. -/
def RefOut (w : World) (RES : Rd Val) (e : Ending) (w' : World) : Prop := Below w.heap.size w w' ∧ match RES with
  | .ok v q => ∃ cs : List Value, e = .returned (.tuple #[.agg cs.toArray, .int .i64 (q : Nat), .int .i64 0]) ∧ Fresh w.heap.size w' (dV v) cs
  | .bad c q => e = .returned (.tuple #[.agg zero6, .int .i64 (q : Nat), .int .i64 c])

set_option maxRecDepth 100000 in
set_option maxHeartbeats 8000000 in
theorem rnumber_calls (s : ByteArray) (k : Nat) (w : World) (hs : s.size ≤ 1000000000) (hk : k < s.size) :
    Calls Tryz.prog 59 #[.string s, .int .i64 k] w (RefOut w ((numberAt s.data.toList k).map intV)) := by
  obtain ⟨F, hF⟩ : ∃ F, (if s.data.toList[k]? = some 45 then k + 1 else k) = F := ⟨_, rfl⟩
  obtain ⟨RES, hRES⟩ : ∃ r, (numberAt s.data.toList k).map intV = r := ⟨_, rfl⟩
  rw [hRES]
  unfold numberAt at hRES
  rw [hF] at hRES
  have hFk : k ≤ F ∧ F ≤ k + 1 := by rw [← hF]; split <;> omega
  have hB0 := RBx.start w
  have hIs : ∀ W, Calls Tryz.prog 96 #[.string s, .int .i64 k, .int .u8 45] W fun e w' => e = .returned (.bool (decide (s.data.toList[k]? = some 45))) ∧ W = w' := fun W => ris_calls (s := s) (k := k) (c := 45) (B := decide (s.data.toList[k]? = some 45)) rfl W hs (by omega)
  obtain ⟨M, hM⟩ : ∃ M, decide (s.data.toList[k]? = some 45) = M := ⟨_, rfl⟩
  rw [hM] at hIs
  have hMF : F = if M = true then k + 1 else k := by rw [← hF, ← hM]; simp
  have HB0 := Lib.hid hB0
  have HRES := Lib.hid hRES
  have HF := Lib.hid hF
  have HIs := Lib.hid hIs
  have HM := Lib.hid hM
  have HMF := Lib.hid hMF
  clear hB0 hRES hF hIs hM hMF
  go_enter Tryz.func59, Tryz.ntmps59
  go_wp2_with (fail)
  generalize w.alloc (.cells zero6 26) = wb at HB0 ⊢
  with_reducible refine (HIs.out _).mono ?_
  rintro e w1 ⟨rfl, rfl⟩
  go_upto_if 16 with (fail)
  go_cut [7] (fun x wx => x = .int .i64 (F : Nat) ∧ wx = wb)
  case first =>
    cases M with
    | true =>
      have eF : (k : Int) + 1 = (F : Int) := by have := HMF.out; rw [if_pos rfl] at this; omega
      go_wp2
      go_meet
      exact ⟨by rw [← eF], rfl⟩
    | false =>
      have eF : k = F := by have := HMF.out; rw [if_neg (by decide)] at this; omega
      go_wp2
      go_meet
      exact ⟨by rw [eF], rfl⟩
  obtain ⟨rfl, rfl⟩ := hcut
  clear HIs
  have hd0 := digEnd_ge s.data.toList F
  have hd1 := digEnd_le (s := s.data.toList) (p := F) (by rw [size_toList]; omega)
  rw [size_toList] at hd1
  obtain ⟨E, hE⟩ : ∃ E, digEnd s.data.toList F = E := ⟨_, rfl⟩
  rw [hE] at hd0 hd1
  have HE := Lib.hid hE
  clear hE
  go_upto_block 0 with (fail)
  go_cut [8] (fun x wx => x = .int .i64 (E : Nat) ∧ wx = wc)
  case first =>
    go_wp2_with (fail)
    go_loop [8] (fun i => ∃ j : Nat, F ≤ j ∧ j ≤ s.size ∧ i = .int .i64 (j : Nat) ∧ Hid (digEnd s.data.toList j = E)) (fun i => s.size - (intOf i).toNat)
    case atStart => exact ⟨F, Nat.le_refl _, by omega, rfl, HE⟩
    case round =>
      obtain ⟨j, hjF, hj, rfl, hh⟩ := hrel
      have j0 : (0 : Int) ≤ (j : Int) := by omega
      by_cases hlt : j < s.size
      · obtain ⟨x, hx⟩ : ∃ x, s[j] = x := ⟨_, rfl⟩
        have hxg : s.data.toList[j]? = some x := by rw [get_byte s hlt, hx]
        have hxl := byte_lt x
        have j1 : decide ((j : Int) < (s.size : Int)) = true := decide_eq_true (by omega)
        have j2 : (j : Int) < (s.size : Int) := by omega
        by_cases hdg : isDig x = true
        · have HN : Hid (digEnd s.data.toList (j + 1) = E) := by rw [← digEnd_step hxg hdg]; exact hh
          unfold isDig at hdg
          rw [decide_eq_true_iff] at hdg
          have l1 : decide ((48 : Int) ≤ (x.toNat : Int)) = true := decide_eq_true (by omega)
          have l2 : decide ((x.toNat : Int) ≤ 57) = true := decide_eq_true (by omega)
          clear hxg hh hdg
          go_wp2
          go_round
          case rel => exact ⟨j + 1, by omega, by omega, by go_num, HN⟩
          case measure => simp [intOf]; omega
        · have HN : Hid (j = E) := by rw [← hh.out, digEnd_stop hxg (by simpa using hdg)]; exact rfl
          unfold isDig at hdg
          rw [decide_eq_true_iff] at hdg
          clear hxg hh
          by_cases h48 : 48 ≤ x.toNat
          · have l1 : decide ((48 : Int) ≤ (x.toNat : Int)) = true := decide_eq_true (by omega)
            have l2 : decide ((x.toNat : Int) ≤ 57) = false := decide_eq_false (by omega)
            go_wp2
            go_meet
            exact ⟨by rw [HN.out], rfl⟩
          · have l1 : decide ((48 : Int) ≤ (x.toNat : Int)) = false := decide_eq_false (by omega)
            go_wp2
            go_meet
            exact ⟨by rw [HN.out], rfl⟩
      · have HN : Hid (j = E) := by rw [← hh.out, digEnd_end (by rw [size_toList]; omega)]; exact rfl
        have j1 : decide ((j : Int) < (s.size : Int)) = false := decide_eq_false (by omega)
        clear hh
        go_wp2
        go_meet
        exact ⟨by rw [HN.out], rfl⟩
  obtain ⟨rfl, rfl⟩ := hcut
  obtain ⟨r0, r1, r2, r3, r4, r5⟩ := vcell HB0.out.blk
  have fz := HB0.out.blk.frozen
  have hlb := HB0.out.blk.lt
  have hxz := HB0.out.many (.int .i64 0) (.bool false) (.int .i64 0) (.string ⟨#[]⟩) (.slice none 0 0) (.slice none 0 0)
  have hres := HRES.out
  unfold numFrom at hres
  rw [HE.out, HM.out] at hres
  by_cases hEF : E = F
  · rw [if_pos hEF] at hres
    subst hres
    subst hEF
    have e1 : ((E : Int) == (E : Int)) = true := by simp
    have Hxz := Lib.hid hxz
    clear hxz
    go_wp2
    exact bodyPost_ret (results_cell6_tt rfl rfl Hxz.out.blk) rfl ⟨Hxz.out.below, rfl⟩
  rw [if_neg hEF] at hres
  have e1 : ((E : Int) == (F : Int)) = false := by rw [beq_eq_false_iff_ne]; omega
  have hFs : F < s.size := by omega
  have F0 : (0 : Int) ≤ (F : Int) := by omega
  have F1 : (F : Int) < (s.size : Int) := by omega
  obtain ⟨x, hx⟩ : ∃ x, s[F] = x := ⟨_, rfl⟩
  have hxg : s.data.toList[F]? = some x := by rw [get_byte s hFs, hx]
  have hxl := byte_lt x
  rw [hxg] at hres
  have hx48 : ((x.toNat : Int) == 48) = decide (x = 48) := by rw [show (48 : Int) = ((48 : Nat) : Int) from rfl, byte_eq (by decide)]; rfl
  obtain ⟨Z, hZ⟩ : ∃ Z, decide (x = 48 ∧ F + 1 < E) = Z := ⟨_, rfl⟩
  have HZ := Lib.hid hZ
  have Hxz := Lib.hid hxz
  have Hres := Lib.hid hres
  have Hxg := Lib.hid hxg
  clear hxz hres hxg
  go_upto_region 9 with (fail)
  go_cut [52] (fun b wx => b = .bool Z ∧ wx = wc)
  case first =>
    have hZ' := HZ.out
    clear hZ
    by_cases hz : x = 48
    · have e48 : decide (x = 48) = true := decide_eq_true hz
      rw [e48] at hx48
      by_cases hm : F + 1 < E
      · have e2 : decide ((F : Int) + 1 < (E : Int)) = true := decide_eq_true (by omega)
        have e3 : (F : Int) + 1 < (E : Int) := by omega
        rw [decide_eq_true ⟨hz, hm⟩] at hZ'
        subst hZ'
        clear hz e48
        go_wp2
        go_meet
        exact ⟨by simp, rfl⟩
      · have e2 : decide ((F : Int) + 1 < (E : Int)) = false := decide_eq_false (by omega)
        have e3 : ¬((F : Int) + 1 < (E : Int)) := by omega
        rw [decide_eq_false (fun q => hm q.2)] at hZ'
        subst hZ'
        clear hz e48
        go_wp2
        go_meet
        exact ⟨by simp, rfl⟩
    · have e48 : decide (x = 48) = false := decide_eq_false hz
      rw [e48] at hx48
      rw [decide_eq_false (fun q => hz q.1)] at hZ'
      subst hZ'
      clear hz e48
      go_wp2
      go_meet
      exact ⟨by simp, rfl⟩
  obtain ⟨rfl, rfl⟩ := hcut
  clear hx48 hxl hx
  cases Z with
  | true =>
    have hz := HZ.out
    have hres := Hres.out
    rw [decide_eq_true_iff] at hz
    rw [if_pos ⟨by rw [hz.1], hz.2⟩] at hres
    subst hres
    clear hz hZ
    go_wp2
    exact bodyPost_ret (results_cell6_tt rfl rfl Hxz.out.blk) rfl ⟨Hxz.out.below, rfl⟩
  | false =>
    have hz := HZ.out
    have hres := Hres.out
    rw [decide_eq_false_iff_not] at hz
    rw [if_neg (fun q => hz ⟨by simpa using q.1, q.2⟩)] at hres
    clear hz hZ HZ Hres Hxg
    have Hres := Lib.hid hres
    clear hres
    go_wp2
    go_loop [10, 11] (fun n i => ∃ j D : Nat, F ≤ j ∧ j ≤ E ∧ i = .int .i64 (j : Nat) ∧ n = .int .i64 (-(D : Int)) ∧ D ≤ 9223372036854775808 ∧ Hid (D = digK s.data.toList F (j - F))) (fun _ i => E - (intOf i).toNat)
    case atStart => exact ⟨F, 0, Nat.le_refl _, by omega, rfl, rfl, by omega, by rw [Nat.sub_self, digK_zero]; exact rfl⟩
    case round =>
      obtain ⟨j, D, hjF, hj, rfl, rfl, hD, hh⟩ := hrel
      have j0 : (0 : Int) ≤ (j : Int) := by omega
      by_cases hlt : j < E
      · have hls : j < s.size := by omega
        obtain ⟨x, hx⟩ : ∃ x, s[j] = x := ⟨_, rfl⟩
        have hxg : s.data.toList[j]? = some x := by rw [get_byte s hls, hx]
        have hxl := byte_lt x
        have hdig := digEnd_dig s.data.toList F j x hjF (by rw [HE.out]; exact hlt) hxg
        unfold isDig at hdig
        rw [decide_eq_true_iff] at hdig
        have j1 : decide ((j : Int) < (E : Int)) = true := decide_eq_true (by omega)
        have j2 : (j : Int) < (s.size : Int) := by omega
        obtain ⟨d, hd⟩ : ∃ d, x.toNat - 48 = d := ⟨_, rfl⟩
        have hd9 : d ≤ 9 := by omega
        have c1 : IntKind.i64.wrap ((x.toNat : Int) - 48) = (d : Int) := by rw [IntWalk.i64_in _ (by omega)]; omega
        have c2 : IntKind.i64.wrap (-9223372036854775808 + (d : Int)) = -9223372036854775808 + (d : Int) := IntWalk.i64_in _ (by omega)
        by_cases hov : 9223372036854775808 < D * 10 + d
        · have t := (room_iff (D := D) hd9).2 hov
          have hr := Hres.out
          have hge := digK_mono (s := s.data.toList) (f := F) (k := j - F + 1) (m := E - F) (by omega)
          rw [digK_succ (c := x) (by rw [show F + (j - F) = j by omega]; exact hxg), ← hh.out, hd] at hge
          have hbad : numRes M (digV ((s.data.toList.drop F).take (E - F))) k E = .bad 7 k := by
            unfold digK at hge
            unfold numRes
            split
            · rw [if_pos (.inr (by omega))]
            · rw [if_pos (by omega)]
          rw [hbad] at hr
          subst hr
          clear Hres hbad hge hh hxg hdig hd hov HRES
          go_wp2
          exact bodyPost_ret (results_cell6_tt rfl rfl Hxz.out.blk) rfl ⟨Hxz.out.below, rfl⟩
        · have t : Int.tdiv (-9223372036854775808 + (d : Int)) 10 ≤ -(D : Int) := Int.not_lt.1 fun q => hov ((room_iff hd9).1 q)
          have c4 : wrap64 (10 * -(D : Int)) = 10 * -(D : Int) := by unfold wrap64; omega
          have c5 : wrap64 (10 * -(D : Int) - (d : Int)) = -((D * 10 + d : Nat) : Int) := by unfold wrap64; omega
          have HN : Hid (D * 10 + d = digK s.data.toList F (j + 1 - F)) := by
            show _ = _
            rw [show j + 1 - F = j - F + 1 by omega, digK_succ (c := x) (by rw [show F + (j - F) = j by omega]; exact hxg), ← hh.out, hd]
          clear hh hxg hdig hd
          go_wp2
          go_round
          case rel => exact ⟨j + 1, D * 10 + d, by omega, by omega, by go_num, by rw [show (10 * -(D : Int) - (d : Int)) = -((D * 10 + d : Nat) : Int) by omega], by omega, HN⟩
          case measure => simp [intOf]; omega
      · obtain rfl : j = E := by omega
        have j1 : decide ((j : Int) < (j : Int)) = false := decide_eq_false (by omega)
        have hr := Hres.out
        rw [show digV ((s.data.toList.drop F).take (j - F)) = D from by have := hh.out; unfold digK at this; exact this.symm] at hr
        have hmf := HMF.out
        clear Hres hh
        cases M with
        | true =>
          rw [if_pos rfl] at hmf
          have e2 : ((F : Int) == (k : Int)) = false := by rw [beq_eq_false_iff_ne]; omega
          unfold numRes at hr
          rw [if_pos rfl] at hr
          by_cases h0 : D = 0
          · subst h0
            rw [if_pos (.inl rfl)] at hr
            subst hr
            clear hmf
            go_wp2
            exact bodyPost_ret (results_cell6_tt rfl rfl Hxz.out.blk) rfl ⟨Hxz.out.below, rfl⟩
          · rw [if_neg (by omega)] at hr
            subst hr
            have e3 : (-(D : Int) == 0) = false := by rw [beq_eq_false_iff_ne]; omega
            have hxf := HB0.out.many (.int .i64 3) (.bool false) (.int .i64 (-(D : Int))) (.string ⟨#[]⟩) (.slice none 0 0) (.slice none 0 0)
            clear hmf
            have Hxf := Lib.hid hxf
            clear hxf
            go_wp2
            exact bodyPost_ret (results_cell6_tt rfl rfl Hxf.out.blk) rfl ⟨Hxf.out.below, ⟨_, rfl, fresh_leafs 3 false _ _⟩⟩
        | false =>
          rw [if_neg (by decide)] at hmf
          have e2 : ((F : Int) == (k : Int)) = true := by rw [hmf]; simp
          unfold numRes at hr
          rw [if_neg (by decide)] at hr
          by_cases h0 : D = 9223372036854775808
          · subst h0
            rw [if_pos (by omega)] at hr
            subst hr
            clear hmf
            go_wp2
            exact bodyPost_ret (results_cell6_tt rfl rfl Hxz.out.blk) rfl ⟨Hxz.out.below, rfl⟩
          · rw [if_neg (by omega)] at hr
            subst hr
            have e3 : (-(D : Int) == -9223372036854775808) = false := by rw [beq_eq_false_iff_ne]; omega
            have c6 : IntKind.i64.wrap (- -(D : Int)) = (D : Int) := by rw [IntWalk.i64_in _ (by omega)]; omega
            have c7 : wrap64 (- -(D : Int)) = (D : Int) := by unfold wrap64; omega
            have c8 : wrap64 (D : Int) = (D : Int) := by unfold wrap64; omega
            have hxf := HB0.out.many (.int .i64 3) (.bool false) (.int .i64 (D : Int)) (.string ⟨#[]⟩) (.slice none 0 0) (.slice none 0 0)
            clear hmf
            have Hxf := Lib.hid hxf
            clear hxf
            go_wp2
            exact bodyPost_ret (results_cell6_tt rfl rfl Hxf.out.blk) rfl ⟨Hxf.out.below, ⟨_, rfl, fresh_leafs 3 false _ _⟩⟩
end Go.Proofs.YtgjiienipeoajaaGreatDoor

/- commonplaceref04.list, where 'value' keeps its promise at a smaller fuel. Condition: a text of at most 1.6*10^7 bytes. -/
namespace Go.Proofs.YtgjiienipeoajaaGreatDoor
open Go Go.RowKit

/-- What 'value' promises at a fuel. -/
def RValC (s : ByteArray) (f : Nat) : Prop := ∀ (w : World) (k : Nat) (d : Int), k ≤ s.size → 4 * (s.size - k) + 1 ≤ f → 0 ≤ d → d ≤ 65 →
    Calls Tryz.prog 32 #[.string s, .int .i64 k, .int .i64 d] w (RefOut w (valueF f s.data.toList k d))
/-- The two variables: the result's and the list's. -/
structure RB2 (w W : World) (V : Value) : Prop where
  res : RBx w W zero6
  var : Blk W (w.heap.size + 1) 26 #[.int .i64 5, .bool false, .int .i64 0, .string ⟨#[]⟩, V, .slice none 0 0]
theorem RB2.later {w W W' : World} {V : Value} (h : RB2 w W V) (t : Below W.heap.size W W') : RB2 w W' V := ⟨h.res.later t, h.var.below t h.var.lt⟩
theorem RB2.grown {w W W' : World} {V V0 : Value} (h : RB2 w W V) (t : W.grownBy W' V0.ownBlock) (hV : ∀ g, V0.ownBlock = some g → w.heap.size + 2 ≤ g) : RB2 w W' V :=
  ⟨⟨h.res.below.grown t h.res.below.size (fun k hk => by have := hV k hk; omega), h.res.blk.grown t (fun e => by have := hV _ e.symm; omega)⟩, h.var.grown t (fun e => by have := hV _ e.symm; omega)⟩
theorem RB2.set {w W : World} {V : Value} (h : RB2 w W V) (V' : Value) : RB2 w (W.setCell ⟨w.heap.size + 1, 4, none⟩ V') V' :=
  ⟨⟨h.res.below.setCell (by simp) _, h.res.blk.far (by simp) _⟩, h.var.set_ 4 V'⟩
/-- What holds between two rounds. -/
structure LRf (w wr : World) (s : ByteArray) (d : Int) (RES : Rd Val) (f n j : Nat) (acc : List Val) (V : Value) : Prop where
  all : RB2 w wr V
  row : RowD (w.heap.size + 2) 26 6 wr (dL acc) V
  is : itemsF n s.data.toList j d acc = RES
  fuel : 4 * (s.size - j) + 2 ≤ n
  lt : n < f
  few : acc.length ≤ j
set_option maxRecDepth 100000 in
set_option maxHeartbeats 8000000 in
theorem rlist_calls (s : ByteArray) (f : Nat) (ih : ∀ f', f' < f → RValC s f') (w : World) (k : Nat) (d : Int) (hs : s.size ≤ 16000000) (hk : k < s.size) (hf : 4 * (s.size - k) ≤ f) (hd0 : 0 ≤ d) (hd : d ≤ 64) :
    Calls Tryz.prog 60 #[.string s, .int .i64 ((k + 1 : Nat) : Int), .int .i64 d] w (RefOut w (listF f s.data.toList k d)) := by
  obtain ⟨j0, hj, hy0, hy1, hy2⟩ := info_parts val_info
  obtain ⟨f, rfl⟩ : ∃ n, f = n + 1 := ⟨f - 1, by omega⟩
  have hP := past_size (s := s) (k := k + 1) (by omega)
  have hP1 := past_ge s.data.toList (k + 1)
  have hpast := fun W => rpast_calls s (k + 1) W (by omega) (by omega)
  have hI0 : RB2 w ((w.alloc (.cells zero6 26)).alloc (.cells #[.int .i64 5, .bool false, .int .i64 0, .string ⟨#[]⟩, .slice none 0 0, .slice none 0 0] 26)) (.slice none 0 0) :=
    ⟨(RBx.start w).later (alloc_below _ _), by simpa using Blk.new (w.alloc (.cells zero6 26)) 26 #[.int .i64 5, .bool false, .int .i64 0, .string ⟨#[]⟩, .slice none 0 0, .slice none 0 0]⟩
  obtain ⟨RES, hRES⟩ : ∃ r, listF (f + 1) s.data.toList k d = r := ⟨_, rfl⟩
  rw [hRES]
  unfold listF at hRES
  have hBB : ∀ B, decide (s.data.toList[past s.data.toList (k + 1)]? = some 93) = B → ∀ W, Calls Tryz.prog 96 #[.string s, .int .i64 (past s.data.toList (k + 1) : Nat), .int .u8 93] W fun e w' => e = .returned (.bool B) ∧ W = w' := fun B hB W => ris_calls hB W (by omega) hP
  obtain ⟨k1, hk1⟩ : ∃ k1, k + 1 = k1 := ⟨_, rfl⟩
  rw [hk1] at hRES hP hP1 hpast hBB ⊢
  have hk1' : k + 1 ≤ k1 := by omega
  clear hk1
  generalize past s.data.toList k1 = p1 at hRES hP hP1 hpast hBB
  cases hB : decide (s.data.toList[p1]? = some 93) with
  | true =>
    have hIs := hBB _ hB
    have hc := hB
    rw [decide_eq_true_iff] at hc
    rw [if_pos hc] at hRES
    subst hRES
    clear hc hBB hB
    have Hj := Lib.hid hj
    have Hy0 := Lib.hid hy0
    have Hy1 := Lib.hid hy1
    have Hy2 := Lib.hid hy2
    have Ih := Lib.hid ih
    have HI0 := Lib.hid hI0
    have Hpast := Lib.hid hpast
    have HIs := Lib.hid hIs
    clear hj hy0 hy1 hy2 ih hI0 hpast hIs
    go_enter Tryz.func60, Tryz.ntmps60
    go_wp2_with (fail)
    generalize (w.alloc (.cells zero6 26)).alloc (.cells #[.int .i64 5, .bool false, .int .i64 0, .string ⟨#[]⟩, .slice none 0 0, .slice none 0 0] 26) = wb at HI0 ⊢
    with_reducible refine (Hpast.out _).mono ?_
    rintro e w1 ⟨rfl, rfl⟩
    go_wp2_with (fail)
    with_reducible refine (HIs.out _).mono ?_
    rintro e w1 ⟨rfl, rfl⟩
    obtain ⟨y0, y1, y2, y3, y4, y5⟩ := vcell HI0.out.var
    have fz := HI0.out.res.blk.frozen
    obtain ⟨r0, r1, r2, r3, r4, r5⟩ := vcell HI0.out.res.blk
    have hxf := HI0.out.res.many (.int .i64 5) (.bool false) (.int .i64 0) (.string ⟨#[]⟩) (.slice none 0 0) (.slice none 0 0)
    have Hxf := Lib.hid hxf
    clear hxf
    go_wp2
    exact bodyPost_ret (results_cell6_tt rfl rfl Hxf.out.blk) rfl ⟨Hxf.out.below, ⟨_, rfl, fresh_leafs 5 false 0 _⟩⟩
  | false =>
    have hIs := hBB _ hB
    have hc := hB
    rw [decide_eq_false_iff_not] at hc
    rw [if_neg hc] at hRES
    clear hc hBB hB
    have HL0 : Hid (∀ wb, RB2 w wb (.slice none 0 0) → LRf w wb s d RES (f + 1) f p1 [] (.slice none 0 0)) := fun wb hb => ⟨hb, by simpa [dL] using RowD.nil _ _ _ _, hRES, by omega, by omega, by simp⟩
    have Hj := Lib.hid hj
    have Hy0 := Lib.hid hy0
    have Hy1 := Lib.hid hy1
    have Hy2 := Lib.hid hy2
    have Ih := Lib.hid ih
    have HI0 := Lib.hid hI0
    have Hpast := Lib.hid hpast
    have HIs := Lib.hid hIs
    clear hj hy0 hy1 hy2 ih hI0 hpast hIs
    clear hRES
    go_enter Tryz.func60, Tryz.ntmps60
    go_wp2_with (fail)
    generalize (w.alloc (.cells zero6 26)).alloc (.cells #[.int .i64 5, .bool false, .int .i64 0, .string ⟨#[]⟩, .slice none 0 0, .slice none 0 0] 26) = wb at HI0 ⊢
    with_reducible refine (Hpast.out _).mono ?_
    rintro e w1 ⟨rfl, rfl⟩
    go_wp2_with (fail)
    with_reducible refine (HIs.out _).mono ?_
    rintro e w1 ⟨rfl, rfl⟩
    go_wp2
    go_loopg [1] f (fun n a wr => ∃ m j acc V, m = n ∧ j ≤ s.size ∧ a = .int .i64 (j : Nat) ∧ Hid (LRf w wr s d RES (f + 1) n j acc V))
    case atStart => exact ⟨f, p1, [], _, rfl, hP, rfl, HL0.out _ HI0.out⟩
    case round =>
      obtain ⟨n, j, acc, V, rfl, hj, rfl, hh⟩ := hrel
      clear HL0 hP hP1 HI0 Hpast HIs
      have hn2 := hh.out.fuel
      have hnf := hh.out.lt
      have hfw := hh.out.few
      obtain ⟨n, rfl⟩ : ∃ m, n = m + 1 := ⟨n - 1, by omega⟩
      have hI := hh.out.all
      have hrow := hh.out.row
      have his := hh.out.is
      obtain ⟨aV, cV, rfl⟩ := hrow.slice
      have hC := Ih.out n (by omega) wr j (d + 1) hj (by omega) (by omega) (by omega)
      have hw := (within_all n).1 s.data.toList j (d + 1) (by rw [size_toList]; exact hj)
      unfold itemsF at his
      have ewr : IntKind.i64.wrap (d + 1) = d + 1 := IntWalk.i64_in _ (by omega)
      have dl : (dL acc).length = acc.length := dL_len _
      cases hr : valueF n s.data.toList j (d + 1) with
      | bad c q =>
        rw [hr] at hC his
        simp only at his
        subst his
        have hc0 : (c == 0) = false := by
          have := (within_all n).1 s.data.toList j (d + 1) (by rw [size_toList]; exact hj)
          rw [hr] at this
          have := this.2.2.1
          rw [beq_eq_false_iff_ne]; omega
        have hc1 : (c != 0) = true := by simp [bne, hc0]
        have HC := Lib.hid hC
        have HI := Lib.hid hI
        have Dl := Lib.hid dl
        have Hrow := Lib.hid hrow
        clear hC hI dl hrow
        clear hw hr hh
        go_wp2_with (fail)
        with_reducible refine (HC.out).mono ?_
        rintro e w4 ⟨hb4, rfl⟩
        have hI4 := HI.out.later hb4
        have hxf := (hI4.res.many (.int .i64 0) (.bool false) (.int .i64 0) (.string ⟨#[]⟩) (.slice none 0 0) (.slice none 0 0)).later (alloc_below _ (.cells zero6 26))
        obtain ⟨r0, r1, r2, r3, r4, r5⟩ := vcell hI4.res.blk
        have fz4 := hI4.res.blk.frozen
        have hlt4 := hI4.res.blk.lt
        have Hxf := Lib.hid hxf
        have HI4 := Lib.hid hI4
        clear hxf hI4
        clear hb4
        go_wp2
        exact bodyPost_ret (results_cell6_tt rfl rfl Hxf.out.blk) rfl ⟨Hxf.out.below, rfl⟩
      | ok v q =>
        rw [hr] at hC his hw
        simp only at his
        obtain ⟨hw1, hw2⟩ := hw
        rw [size_toList] at hw2
        obtain ⟨k', b', n', t', l', o'⟩ := v
        have htk : dL acc ++ [dV (.mk k' b' n' t' l' o')] = dL (acc ++ [.mk k' b' n' t' l' o']) := by rw [dL_map, dL_map]; simp
        have HLo : Hid ((dL acc).length + 1 ≤ maxLen ∧ ((dL acc).length + 1) * 88 ≤ 140737488355328) := by rw [dl]; exact ⟨by simp only [maxLen]; omega, by omega⟩
        have hq' : past s.data.toList q ≤ s.size := past_size hw2
        have hq1 := past_ge s.data.toList q
        have hpast := fun W => rpast_calls s q W (by omega) hw2
        have h93 : ∀ B, decide (s.data.toList[past s.data.toList q]? = some 93) = B → ∀ W, Calls Tryz.prog 96 #[.string s, .int .i64 (past s.data.toList q : Nat), .int .u8 93] W fun e w' => e = .returned (.bool B) ∧ W = w' := fun B hB W => ris_calls hB W (by omega) hq'
        have h44 : ∀ B, decide (s.data.toList[past s.data.toList q]? = some 44) = B → ∀ W, Calls Tryz.prog 96 #[.string s, .int .i64 (past s.data.toList q : Nat), .int .u8 44] W fun e w' => e = .returned (.bool B) ∧ W = w' := fun B hB W => ris_calls hB W (by omega) hq'
        generalize past s.data.toList q = pq at hq' hq1 hpast h93 h44 his
        have hrs := hI.var.lt
        have HC := Lib.hid hC
        have HI := Lib.hid hI
        have Dl := Lib.hid dl
        have Htk := Lib.hid htk
        have His := Lib.hid his
        have Hrow := Lib.hid hrow
        have Hpast := Lib.hid hpast
        have H93 := Lib.hid h93
        have H44 := Lib.hid h44
        clear hC hI dl htk his hrow hpast h93 h44
        clear hh hr
        go_wp2_with (fail)
        with_reducible refine (HC.out).mono ?_
        rintro e w4 ⟨hb4, cs, rfl, hf4⟩
        obtain ⟨la4, lc4, oa4, oc4, rfl⟩ := six_now hf4
        have hI4 := HI.out.later hb4
        obtain ⟨y0, y1, y2, y3, y4, y5⟩ := vcell hI4.var
        have hlt4 := hI4.var.lt
        have hsz4 := hb4.size
        have hbe := (hb4.alloc hb4.size (.cells #[.int .i64 k', .bool b', .int .i64 n', .string t', .slice la4 l'.length lc4, .slice oa4 o'.length oc4] 26)).alloc (by simp; omega) (.cells #[.int .i64 k', .bool b', .int .i64 n', .string t', .slice la4 l'.length lc4, .slice oa4 o'.length oc4] 26)
        have hfe := (hf4.later (alloc_below w4 (.cells #[.int .i64 k', .bool b', .int .i64 n', .string t', .slice la4 l'.length lc4, .slice oa4 o'.length oc4] 26))).later (alloc_below _ (.cells #[.int .i64 k', .bool b', .int .i64 n', .string t', .slice la4 l'.length lc4, .slice oa4 o'.length oc4] 26))
        have hI5 := (hI4.later (alloc_below w4 (.cells #[.int .i64 k', .bool b', .int .i64 n', .string t', .slice la4 l'.length lc4, .slice oa4 o'.length oc4] 26))).later (alloc_below _ (.cells #[.int .i64 k', .bool b', .int .i64 n', .string t', .slice la4 l'.length lc4, .slice oa4 o'.length oc4] 26))
        have hrd : Reads ((w4.alloc (.cells #[.int .i64 k', .bool b', .int .i64 n', .string t', .slice la4 l'.length lc4, .slice oa4 o'.length oc4] 26)).alloc (.cells #[.int .i64 k', .bool b', .int .i64 n', .string t', .slice la4 l'.length lc4, .slice oa4 o'.length oc4] 26)) (w4.heap.size + 1 + 1) 6 (some ⟨w4.heap.size + 1, 0, none⟩) 1 [.int .i64 k', .bool b', .int .i64 n', .string t', .slice la4 l'.length lc4, .slice oa4 o'.length oc4] := by simpa using reads_six (w4.alloc (.cells #[.int .i64 k', .bool b', .int .i64 n', .string t', .slice la4 l'.length lc4, .slice oa4 o'.length oc4] 26)) (.int .i64 k') (.bool b') (.int .i64 n') (.string t') (.slice la4 l'.length lc4) (.slice oa4 o'.length oc4)
        have Hbe := Lib.hid hbe
        have Hfe := Lib.hid hfe
        have HI5 := Lib.hid hI5
        have Hrd := Lib.hid hrd
        have HI4 := Lib.hid hI4
        have Hb4 := Lib.hid hb4
        have Hf4 := Lib.hid hf4
        clear hbe hfe hI5 hrd hI4 hb4 hf4
        go_wp2_with (at_builtin; apply Shut.out)
        unfold Shut
        refine wpList_append_D (d := dV (.mk k' b' n' t' l' o')) (V := .slice aV (dL acc).length cV) rfl (.tmp 38) (.tmp 40) 23 rfl Tryz.underlying23 Hj.out Hy0.out Hy1.out Hy2.out rfl (by omega) rfl Hrow.out (by omega) Hbe.out (dV_cells _) Hfe.out rfl Hrd.out HLo.out.1 HLo.out.2 ?_
        intro V6 w6 hrow6 hg6 hat6
        have hI6 := HI5.out.grown hg6 (fun r e => (Hrow.out.base r e).1)
        rw [Htk.out] at hrow6
        obtain ⟨a6, c6, rfl⟩ := hrow6.slice
        have e6 := hI6.var.cell 4
        have f6 := hI6.var.frozen 4
        have hlt6 := hI6.var.lt
        have hI7 := hI6.set (.slice a6 (dL (acc ++ [Val.mk k' b' n' t' l' o'])).length c6)
        have hrow7 := hrow6.keep (w' := w6.setCell ⟨w.heap.size + 1, 4, none⟩ (.slice a6 (dL (acc ++ [Val.mk k' b' n' t' l' o'])).length c6)) (by simp [World.setCell]) (fun i h1 _ => Below.heap_setCell _ _ _ _ (by simp; omega))
        have HI6 := Lib.hid hI6
        have Hrow6 := Lib.hid hrow6
        have HI7 := Lib.hid hI7
        have Hrow7 := Lib.hid hrow7
        clear hI6 hrow6 hI7 hrow7
        clear hg6 hat6 Hbe Hfe HI5 Hrd HI4 Hb4 Hf4 y0 y1 y2 y3 y4 y5 hlt4 hsz4
        go_wp2_with (fail)
        generalize w6.setCell ⟨w.heap.size + 1, 4, none⟩ (.slice a6 (dL (acc ++ [Val.mk k' b' n' t' l' o'])).length c6) = w7 at HI7 Hrow7 ⊢
        clear e6 f6 hlt6 HI6 Hrow6
        with_reducible refine (Hpast.out _).mono ?_
        rintro e w8 ⟨rfl, rfl⟩
        obtain ⟨r0, r1, r2, r3, r4, r5⟩ := vcell HI7.out.res.blk
        have fz7 := HI7.out.res.blk.frozen
        have hlt7 := HI7.out.res.blk.lt
        cases hB : decide (s.data.toList[pq]? = some 93) with
        | true =>
          have hIs := H93.out _ hB
          have his := His.out
          rw [decide_eq_true_iff] at hB
          rw [if_neg (by rw [hB]; decide), if_pos hB] at his
          subst his
          obtain ⟨y0, y1, y2, y3, y4, y5⟩ := vcell HI7.out.var
          obtain ⟨a', c', ee, _, hfr, _⟩ := Hrow7.out.close
          cases ee
          have hxf := HI7.out.res.many (.int .i64 5) (.bool false) (.int .i64 0) (.string ⟨#[]⟩) (.slice a6 (dL (acc ++ [Val.mk k' b' n' t' l' o'])).length c6) (.slice none 0 0)
          have hff := fresh_lst (hfr.keep (b' := w.heap.size) (w' := setMany w7 w.heap.size 0 [.int .i64 5, .bool false, .int .i64 0, .string ⟨#[]⟩, .slice a6 (dL (acc ++ [Val.mk k' b' n' t' l' o'])).length c6, .slice none 0 0]) (by omega) (by rw [setMany_size]; exact Nat.le_refl _) (fun p p1 p2 => World.cell?_of_block (setMany_far _ _ _ _ _ (by omega))))
          have Hxf := Lib.hid hxf
          have Hff := Lib.hid hff
          have HIs := Lib.hid hIs
          have Hfr := Lib.hid hfr
          clear hxf hff hIs hfr
          clear hB
          go_wp2_with (fail)
          with_reducible refine (HIs.out _).mono ?_
          rintro e w8 ⟨rfl, rfl⟩
          go_wp2
          exact bodyPost_ret (results_cell6_tt rfl rfl Hxf.out.blk) rfl ⟨Hxf.out.below, ⟨_, rfl, Hff.out⟩⟩
        | false =>
          have hIs := H93.out _ hB
          have his := His.out
          rw [decide_eq_false_iff_not] at hB
          clear His
          cases hB4 : decide (s.data.toList[pq]? = some 44) with
          | true =>
            have hIs4 := H44.out _ hB4
            rw [decide_eq_true_iff] at hB4
            rw [if_pos hB4] at his
            have hlt := get_lt hB4
            rw [size_toList] at hlt
            have HN : Hid (LRf w w7 s d RES (f + 1) n (pq + 1) (acc ++ [Val.mk k' b' n' t' l' o']) (.slice a6 (dL (acc ++ [Val.mk k' b' n' t' l' o'])).length c6)) := ⟨HI7.out, Hrow7.out, his, by omega, by omega, by simp; omega⟩
            have HIs := Lib.hid hIs
            have HIs4 := Lib.hid hIs4
            clear hIs hIs4
            clear hB hB4 his
            go_wp2_with (fail)
            with_reducible refine (HIs.out _).mono ?_
            rintro e w8 ⟨rfl, rfl⟩
            go_wp2_with (fail)
            with_reducible refine (HIs4.out _).mono ?_
            rintro e w8 ⟨rfl, rfl⟩
            go_wp2
            go_roundg n
            case measure => omega
            case rel => exact ⟨n, _, _, _, rfl, by omega, by go_num, HN⟩
          | false =>
            have hIs4 := H44.out _ hB4
            rw [decide_eq_false_iff_not] at hB4
            rw [if_neg hB4, if_neg hB] at his
            subst his
            have hxf := HI7.out.res.many (.int .i64 0) (.bool false) (.int .i64 0) (.string ⟨#[]⟩) (.slice none 0 0) (.slice none 0 0)
            have HIs := Lib.hid hIs
            have HIs4 := Lib.hid hIs4
            have Hxf := Lib.hid hxf
            clear hIs hIs4 hxf
            clear hB hB4
            go_wp2_with (fail)
            with_reducible refine (HIs.out _).mono ?_
            rintro e w8 ⟨rfl, rfl⟩
            go_wp2_with (fail)
            with_reducible refine (HIs4.out _).mono ?_
            rintro e w8 ⟨rfl, rfl⟩
            go_wp2
            exact bodyPost_ret (results_cell6_tt rfl rfl Hxf.out.blk) rfl ⟨Hxf.out.below, rfl⟩
end Go.Proofs.YtgjiienipeoajaaGreatDoor
