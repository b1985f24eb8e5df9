/- Parts, joined: commonplaceref04.object, where 'value' keeps its promise at a smaller fuel. Condition: a text of at most 1.6*10^7 bytes. -/
import Derived.Test.YtgjiienipeoajaaGreatDoorProg
import Derived.Test.YtgjiienipeoajaaGreatDoorKPrs27
import Derived.Test.YtgjiienipeoajaaGreatDoorKPrs28
import Derived.Test.YtgjiienipeoajaaGreatDoorKPrs35
import Derived.Test.YtgjiienipeoajaaGreatDoorKPrs36
/- commonplaceref04.object, where 'value' keeps its promise at a smaller fuel. Condition: a text of at most 1.6*10^7 bytes. -/
namespace Go.Proofs.YtgjiienipeoajaaGreatDoor
open Go Go.RowKit

theorem hasK_not' {k : ByteArray} {acc : List (ByteArray × Val)} (h : hasK k acc = false) (hn : (acc.map (·.1)).Nodup) (v : Val) : ((acc ++ [(k, v)]).map (·.1)).Nodup := by
  rw [List.map_append, List.nodup_append]
  refine ⟨hn, by simp, fun a ha b hb => ?_⟩
  simp only [List.map_cons, List.map_nil, List.mem_cons, List.not_mem_nil, or_false] at hb
  subst hb
  rintro rfl
  obtain ⟨m, hm, rfl⟩ := List.mem_map.1 ha
  have : hasK m.1 acc = true := by
    unfold hasK
    rw [List.any_eq_true]
    exact ⟨m, hm, by simp⟩
  rw [this] at h; cases h
/-- A row of members that holds, as the walks of ref02 want it. -/
theorem rowO_of {w : World} {B : Nat} {o : List (ByteArray × Val)} {a : Option Addr} {n c : Nat} (h : Holds w B (.row 7 (dO o)) [.slice a n c]) : o = [] ∨ ∃ g off, a = some ⟨g, off, none⟩ ∧ g < B ∧ HoldsO w B o g off := by
  obtain ⟨a', c', e, _, ns, h1, h2⟩ := h
  simp only [List.cons.injEq, Value.slice.injEq, and_true] at e
  obtain ⟨rfl, _, rfl⟩ := e
  cases o with
  | nil => exact .inl rfl
  | cons m r =>
    rcases h2 with e | ⟨g, off, e, hg, hc⟩
    · simp [dO] at e
    · exact .inr ⟨g, off, e, hg, h1.toO (fun _ _ _ q => holdsV_of _ _ q) hc⟩
/-- The members of ref02.Object, as fresh data. -/
theorem fresh_of_obj {w w' : World} {o : List (ByteArray × Val)} {oa : Option Addr} {oc : Nat} (h : o = [] ∨ ∃ g, oa = some ⟨g, 0, none⟩ ∧ w.heap.size ≤ g ∧ g < w'.heap.size ∧ ∀ w'' : World, w'.heap.size ≤ w''.heap.size → (∀ p : Addr, w.heap.size ≤ p.block → p.block < w'.heap.size → w''.cell? p = w'.cell? p) → HoldsO w'' w'.heap.size o g 0) :
    Fresh w.heap.size w' (dV (objV o)) [.int .i64 6, .bool false, .int .i64 0, .string ⟨#[]⟩, .slice none 0 0, .slice oa o.length oc] := fun w'' h1 h2 => by
  refine holds_of_V _ _ ?_
  unfold objV
  simp only [HoldsV]
  refine ⟨none, 0, oa, oc, rfl, by simp, ?_⟩
  rcases h with rfl | ⟨g, e, _, hg, hh⟩
  · exact .inl rfl
  · exact .inr ⟨g, 0, e, hg, hh w'' h1 h2⟩
theorem RBx.grown {w W W' : World} {cs : Array Value} {V0 : Value} (h : RBx w W cs) (t : W.grownBy W' V0.ownBlock) (hV : ∀ g, V0.ownBlock = some g → w.heap.size + 1 ≤ g) : RBx w W' cs :=
  ⟨h.below.grown t h.below.size (fun k hk => by have := hV k hk; omega), h.blk.grown t (fun e => by have := hV _ e.symm; omega)⟩
theorem bulkO_snoc : ∀ (l : List (ByteArray × Val)) (m : ByteArray × Val), bulkO (l ++ [m]) = bulkO l + bulkP m
  | [], m => by simp [bulkO]
  | x :: r, m => by simp only [List.cons_append, bulkO, bulkO_snoc r m]; omega
theorem dO_snoc (l : List (ByteArray × Val)) (m : ByteArray × Val) : dO l ++ [dP m] = dO (l ++ [m]) := by rw [dO_map, dO_map]; simp
/-- What holds between two rounds. -/
structure ORf (w wr : World) (s : ByteArray) (d : Int) (RES : Rd Val) (f n j : Nat) (acc : List (ByteArray × Val)) (V : Value) : Prop where
  res : RBx w wr zero6
  row : RowD (w.heap.size + 1) 37 7 wr (dO acc) V
  nod : (acc.map (·.1)).Nodup
  is : membersF n s.data.toList j d acc = RES
  fuel : 4 * (s.size - j) + 2 ≤ n
  lt : n < f
  few : acc.length ≤ j
  size : bulkO acc ≤ 6 * j
set_option maxRecDepth 100000 in
set_option maxHeartbeats 16000000 in
theorem robj_calls (HCo : ∀ v, CopyC v) (s : ByteArray) (f : Nat) (ih : ∀ f', f' < f → RValC s f') (w : World) (k : Nat) (d : Int) (hs : s.size ≤ 16000000) (hk : k < s.size) (hf : 4 * (s.size - k) ≤ f) (hd0 : 0 ≤ d) (hd : d ≤ 64) :
    Calls Tryz.prog 61 #[.string s, .int .i64 ((k + 1 : Nat) : Int), .int .i64 d] w (RefOut w (objF f s.data.toList k d)) := by
  obtain ⟨j0, hj, hy0, hy1, hy2⟩ := info_parts mem_info
  obtain ⟨f, rfl⟩ : ∃ n, f = n + 1 := ⟨f - 1, by omega⟩
  have hP := past_size (s := s) (k := k + 1) (by omega)
  have hP1 := past_ge s.data.toList (k + 1)
  have hpast := fun W => rpast_calls s (k + 1) W (by omega) (by omega)
  have hI0 := RBx.start w
  obtain ⟨RES, hRES⟩ : ∃ r, objF (f + 1) s.data.toList k d = r := ⟨_, rfl⟩
  rw [hRES]
  unfold objF at hRES
  have hBB : ∀ B, decide (s.data.toList[past s.data.toList (k + 1)]? = some 125) = B → ∀ W, Calls Tryz.prog 96 #[.string s, .int .i64 (past s.data.toList (k + 1) : Nat), .int .u8 125] W fun e w' => e = .returned (.bool B) ∧ W = w' := fun B hB W => ris_calls hB W (by omega) hP
  obtain ⟨k1, hk1⟩ : ∃ k1, k + 1 = k1 := ⟨_, rfl⟩
  rw [hk1] at hRES hP hP1 hpast hBB ⊢
  have hk1' : k + 1 ≤ k1 := by omega
  clear hk1
  generalize past s.data.toList k1 = p1 at hRES hP hP1 hpast hBB
  cases hB : decide (s.data.toList[p1]? = some 125) with
  | true =>
    have hIs := hBB _ hB
    have hc := hB
    rw [decide_eq_true_iff] at hc
    rw [if_pos hc] at hRES
    subst hRES
    clear hc hBB hB
    have Hj := Lib.hid hj
    have Hy0 := Lib.hid hy0
    have Hy1 := Lib.hid hy1
    have Hy2 := Lib.hid hy2
    have Ih := Lib.hid ih
    have HI0 := Lib.hid hI0
    have Hpast := Lib.hid hpast
    have HIs := Lib.hid hIs
    clear hj hy0 hy1 hy2 ih hI0 hpast hIs
    go_enter Tryz.func61, Tryz.ntmps61
    go_wp2_with (fail)
    generalize w.alloc (.cells zero6 26) = wb at HI0 ⊢
    with_reducible refine (Hpast.out _).mono ?_
    rintro e w1 ⟨rfl, rfl⟩
    go_wp2_with (fail)
    with_reducible refine (HIs.out _).mono ?_
    rintro e w1 ⟨rfl, rfl⟩
    have fz := HI0.out.blk.frozen
    have hlb := HI0.out.blk.lt
    obtain ⟨r0, r1, r2, r3, r4, r5⟩ := vcell HI0.out.blk
    have hxf := HI0.out.many (.int .i64 6) (.bool false) (.int .i64 0) (.string ⟨#[]⟩) (.slice none 0 0) (.slice none 0 0)
    have Hxf := Lib.hid hxf
    clear hxf
    go_wp2
    exact bodyPost_ret (results_cell6_tt rfl rfl Hxf.out.blk) rfl ⟨Hxf.out.below, ⟨_, rfl, fresh_leafs 6 false 0 _⟩⟩
  | false =>
    have hIs := hBB _ hB
    have hc := hB
    rw [decide_eq_false_iff_not] at hc
    rw [if_neg hc] at hRES
    clear hc hBB hB
    have HL0 : Hid (∀ wb, RBx w wb zero6 → ORf w wb s d RES (f + 1) f p1 [] (.slice none 0 0)) := fun wb hb => ⟨hb, by simpa [dO] using RowD.nil _ _ _ _, List.nodup_nil, hRES, by omega, by omega, by simp, by simp [bulkO]⟩
    have Hj := Lib.hid hj
    have Hy0 := Lib.hid hy0
    have Hy1 := Lib.hid hy1
    have Hy2 := Lib.hid hy2
    have Ih := Lib.hid ih
    have HI0 := Lib.hid hI0
    have Hpast := Lib.hid hpast
    have HIs := Lib.hid hIs
    clear hj hy0 hy1 hy2 ih hI0 hpast hIs
    clear hRES
    go_enter Tryz.func61, Tryz.ntmps61
    go_wp2_with (fail)
    generalize w.alloc (.cells zero6 26) = wb at HI0 ⊢
    with_reducible refine (Hpast.out _).mono ?_
    rintro e w1 ⟨rfl, rfl⟩
    go_wp2_with (fail)
    with_reducible refine (HIs.out _).mono ?_
    rintro e w1 ⟨rfl, rfl⟩
    go_wp2
    go_loopg [1, 9] f (fun n a V wr => ∃ m j acc, m = n ∧ j ≤ s.size ∧ a = .int .i64 (j : Nat) ∧ Hid (ORf w wr s d RES (f + 1) n j acc V))
    case atStart => exact ⟨f, p1, [], rfl, hP, rfl, HL0.out _ HI0.out⟩
    case round =>
      obtain ⟨n, j, acc, rfl, hj, rfl, hh⟩ := hrel
      clear HL0 hP hP1 HI0 Hpast HIs
      have hn2 := hh.out.fuel
      have hnf := hh.out.lt
      have hfw := hh.out.few
      have hsz := hh.out.size
      obtain ⟨n, rfl⟩ : ∃ m, n = m + 1 := ⟨n - 1, by omega⟩
      have hI := hh.out.res
      have hrow := hh.out.row
      have his := hh.out.is
      have hnod := hh.out.nod
      have dl : (dO acc).length = acc.length := dO_len _
      obtain ⟨aV, cV, rfl⟩ := hrow.slice_n dl
      have hRow := rowO_of hrow.now
      have hP2 := past_size (s := s) (k := j) hj
      have hP3 := past_ge s.data.toList j
      have hpast := fun W => rpast_calls s j W (by omega) hj
      unfold membersF at his
      generalize past s.data.toList j = p at his hP2 hP3 hpast
      have hU := fun W => runq_calls s p W (by omega) hP2
      obtain ⟨r0, r1, r2, r3, r4, r5⟩ := vcell hI.blk
      have fz := hI.blk.frozen
      have hlr := hI.blk.lt
      have hw := unqAt_within (s := s.data.toList) (p := p) (by rw [size_toList]; exact hP2)
      cases hr : unqAt s.data.toList p with
      | bad c q =>
        rw [hr] at hU his hw
        simp only at his
        subst his
        have hc1 : (c != 0) = true := by have := hw.2.2.1; simp only [bne_iff_ne, ne_eq]; omega
        have hI2 : ∀ W', Below wr.heap.size wr W' → RBx w W' zero6 := fun _ h => hI.later h
        simp only [unqR] at hU
        have HU := Lib.hid hU
        have HI := Lib.hid hI
        have Hrow := Lib.hid hrow
        have Hpast := Lib.hid hpast
        have HRow := Lib.hid hRow
        have Hnod := Lib.hid hnod
        have HI2 := Lib.hid hI2
        clear hU hI hrow hpast hRow hnod hI2
        clear hw hr hh r0 r1 r2 r3 r4 r5 fz hlr
        go_wp2_with (fail)
        with_reducible refine (Hpast.out _).mono ?_
        rintro e w1 ⟨rfl, rfl⟩
        go_wp2_with (fail)
        with_reducible refine (HU.out _).mono ?_
        rintro e w4 ⟨rfl, hb4⟩
        have hI4 := HI2.out w4 hb4
        have hxf := hI4.many (.int .i64 0) (.bool false) (.int .i64 0) (.string ⟨#[]⟩) (.slice none 0 0) (.slice none 0 0)
        obtain ⟨r0, r1, r2, r3, r4, r5⟩ := vcell hI4.blk
        have fz4 := hI4.blk.frozen
        have hlt4 := hI4.blk.lt
        have Hxf := Lib.hid hxf
        have HI4 := Lib.hid hI4
        clear hxf hI4
        clear hb4
        go_wp2
        exact bodyPost_ret (results_cell6_tt rfl rfl Hxf.out.blk) rfl ⟨Hxf.out.below, rfl⟩
      | ok kl q =>
        rw [hr] at hU his hw
        simp only at his
        simp only [unqR] at hU
        obtain ⟨hw1, hw2⟩ := hw
        rw [size_toList] at hw2
        have hkl := (unqAt_ok hr).2
        obtain ⟨KK, hKK⟩ : ∃ K : ByteArray, (⟨kl.toArray⟩ : ByteArray) = K := ⟨_, rfl⟩
        have hKs : KK.size = kl.length := by rw [← hKK]; rfl
        rw [hKK] at hU his
        have HU := Lib.hid hU
        have HI := Lib.hid hI
        have Hrow := Lib.hid hrow
        have Hpast := Lib.hid hpast
        have HRow := Lib.hid hRow
        have Hnod := Lib.hid hnod
        have His := Lib.hid his
        clear hU hI hrow hpast hRow hnod his
        clear hr hh r0 r1 r2 r3 r4 r5 fz hlr
        go_wp2_with (fail)
        with_reducible refine (Hpast.out _).mono ?_
        rintro e w1 ⟨rfl, rfl⟩
        go_wp2_with (fail)
        with_reducible refine (HU.out _).mono ?_
        rintro e w2 ⟨rfl, hb2⟩
        have hI2 := HI.out.later hb2
        have hrow2 := Hrow.out.below hb2
        have hbs := hb2.size
        have hO2 : acc = [] ∨ ∃ g off, aV = some ⟨g, off, none⟩ ∧ g < w2.heap.size ∧ HoldsO w2 w2.heap.size acc g off := rowO_of hrow2.now
        have HI2 := Lib.hid hI2
        have Hrow2 := Lib.hid hrow2
        have HO2 := Lib.hid hO2
        clear hI2 hrow2 hO2
        clear hb2
        go_upto_block 2 with (fail)
        go_cut [] (fun wx => Hid (hasK KK acc = false) ∧ wx = w2)
        case first =>
          go_wp2_with (fail)
          go_loop [13] (fun i => ∃ x : Nat, x ≤ acc.length ∧ i = .int .i64 (x : Nat) ∧ Hid (hasK KK (acc.take x) = false)) (fun i => acc.length - (intOf i).toNat)
          case atStart => exact ⟨0, Nat.zero_le _, rfl, Lib.hid (by simp [hasK])⟩
          case round =>
            obtain ⟨x, hx, rfl, hh⟩ := hrel
            have x0 : (0 : Int) ≤ (x : Int) := by omega
            by_cases hlt : x < acc.length
            · obtain ⟨m, hm⟩ : ∃ m, acc[x]? = some m := ⟨_, List.getElem?_eq_getElem hlt⟩
              obtain ⟨g, off, rfl, hg, hO⟩ : ∃ g off, aV = some ⟨g, off, none⟩ ∧ g < w2.heap.size ∧ HoldsO w2 w2.heap.size acc g off := by
                rcases HO2.out with h0 | h
                · rw [h0] at hlt; simp at hlt
                · exact h
              have ck := (hO.at_ hm).1
              have x1 : (x : Int) < (acc.length : Int) := by omega
              have x2 : decide ((x : Int) < (acc.length : Int)) = true := decide_eq_true x1
              have htk : hasK KK (acc.take (x + 1)) = (hasK KK (acc.take x) || decide (m.1 = KK)) := by
                unfold hasK
                rw [List.take_add_one, hm, Option.toList_some, List.any_append]
                simp
              rw [hh.out, Bool.false_or] at htk
              by_cases he : m.1 = KK
              · rw [decide_eq_true he] at htk
                have hall : hasK KK acc = true := by
                  unfold hasK at htk ⊢
                  rw [List.any_eq_true] at htk ⊢
                  obtain ⟨y, hy, e⟩ := htk
                  exact ⟨y, List.mem_of_mem_take hy, e⟩
                have his := His.out
                rw [if_pos hall] at his
                subst his
                rw [he] at ck
                obtain ⟨r0, r1, r2, r3, r4, r5⟩ := vcell HI2.out.blk
                have fz4 := HI2.out.blk.frozen
                have hlt4 := HI2.out.blk.lt
                have hxf := HI2.out.many (.int .i64 0) (.bool false) (.int .i64 0) (.string ⟨#[]⟩) (.slice none 0 0) (.slice none 0 0)
                have Hxf := Lib.hid hxf
                have HO := Lib.hid hO
                clear hxf hO
                clear htk hall hh hm he
                go_wp2
                exact bodyPost_ret (results_cell6_tt rfl rfl Hxf.out.blk) rfl ⟨Hxf.out.below, rfl⟩
              · rw [decide_eq_false he] at htk
                have hnl : (m.1.toList == KK.toList) = false := by
                  rw [beq_eq_false_iff_ne, ByteArray.toList_eq, ByteArray.toList_eq]
                  intro e
                  exact he (ByteArray.ext (Array.toList_inj.1 e))
                have HN := Lib.hid htk
                have HO := Lib.hid hO
                have He := Lib.hid he
                clear hO he
                clear htk hh hm
                go_wp2
                go_round
                case rel => exact ⟨x + 1, by omega, by go_num, HN⟩
                case measure => simp [intOf]; omega
            · obtain rfl : x = acc.length := by omega
              have hfin := hh.out
              rw [List.take_length] at hfin
              have x2 : decide ((acc.length : Int) < (acc.length : Int)) = false := decide_eq_false (by omega)
              have Hfin := Lib.hid hfin
              clear hfin
              clear hh
              go_wp2
              go_meet
              exact ⟨Hfin, rfl⟩
        obtain ⟨hnk, rfl⟩ := hcut
        have his := His.out
        rw [if_neg (by rw [hnk.out]; decide)] at his
        have hP4 := past_size hw2
        have hP5 := past_ge s.data.toList q
        have hpast := fun W => rpast_calls s q W (by omega) hw2
        generalize past s.data.toList q = pq at his hP4 hP5 hpast
        have h58 : ∀ B, decide (s.data.toList[pq]? = some 58) = B → ∀ W, Calls Tryz.prog 96 #[.string s, .int .i64 (pq : Nat), .int .u8 58] W fun e w' => e = .returned (.bool B) ∧ W = w' := fun B hB W => ris_calls hB W (by omega) hP4
        clear His HU Hpast HO2 HI Hrow HRow
        have Hpast := Lib.hid hpast
        clear hpast
        cases hB : decide (s.data.toList[pq]? = some 58) with
        | false =>
          have hIs := h58 _ hB
          rw [decide_eq_false_iff_not] at hB
          rw [if_neg hB] at his
          subst his
          obtain ⟨r0, r1, r2, r3, r4, r5⟩ := vcell HI2.out.blk
          have fz4 := HI2.out.blk.frozen
          have hlt4 := HI2.out.blk.lt
          have hxf := HI2.out.many (.int .i64 0) (.bool false) (.int .i64 0) (.string ⟨#[]⟩) (.slice none 0 0) (.slice none 0 0)
          have Hxf := Lib.hid hxf
          have HIs := Lib.hid hIs
          clear hxf hIs
          clear h58 hB
          go_wp2_with (fail)
          with_reducible refine (Hpast.out _).mono ?_
          rintro e w3 ⟨rfl, rfl⟩
          go_wp2_with (fail)
          with_reducible refine (HIs.out _).mono ?_
          rintro e w3 ⟨rfl, rfl⟩
          go_wp2
          exact bodyPost_ret (results_cell6_tt rfl rfl Hxf.out.blk) rfl ⟨Hxf.out.below, rfl⟩
        | true =>
          have hIs := h58 _ hB
          rw [decide_eq_true_iff] at hB
          rw [if_pos hB] at his
          have hlt := get_lt hB
          rw [size_toList] at hlt
          obtain ⟨m, rfl⟩ : ∃ m, n = m + 1 := ⟨n - 1, by omega⟩
          unfold memberF at his
          have hC : ∀ W, Calls Tryz.prog 32 #[.string s, .int .i64 ((pq : Int) + 1), .int .i64 (d + 1)] W (RefOut W (valueF m s.data.toList (pq + 1) (d + 1))) := fun W => by
            have := Ih.out m (by omega) W (pq + 1) (d + 1) (by omega) (by omega) (by omega) (by omega)
            rwa [show ((pq + 1 : Nat) : Int) = (pq : Int) + 1 by omega] at this
          have hw := (within_all m).1 s.data.toList (pq + 1) (d + 1) (by rw [size_toList]; omega)
          have hsd := (sized_all m).1 s.data.toList (pq + 1) (d + 1) (by rw [size_toList]; omega)
          have ewr : IntKind.i64.wrap (d + 1) = d + 1 := IntWalk.i64_in _ (by omega)
          clear h58 hB
          cases hr : valueF m s.data.toList (pq + 1) (d + 1) with
          | bad c q2 =>
            rw [hr] at hC his hw
            simp only at his
            subst his
            have hc1 : (c != 0) = true := by have := hw.2.2.1; simp only [bne_iff_ne, ne_eq]; omega
            have HC := Lib.hid hC
            have HIs := Lib.hid hIs
            clear hC hIs
            clear hw hr hsd
            go_wp2_with (fail)
            with_reducible refine (Hpast.out _).mono ?_
            rintro e w3 ⟨rfl, rfl⟩
            go_wp2_with (fail)
            with_reducible refine (HIs.out _).mono ?_
            rintro e w3 ⟨rfl, rfl⟩
            go_wp2_with (fail)
            with_reducible refine (HC.out _).mono ?_
            rintro e w4 ⟨hb4, rfl⟩
            have hI4 := HI2.out.later hb4
            have hxf := (hI4.many (.int .i64 0) (.bool false) (.int .i64 0) (.string ⟨#[]⟩) (.slice none 0 0) (.slice none 0 0)).later (alloc_below _ (.cells zero6 26))
            obtain ⟨r0, r1, r2, r3, r4, r5⟩ := vcell hI4.blk
            have fz4 := hI4.blk.frozen
            have hlt4 := hI4.blk.lt
            have Hxf := Lib.hid hxf
            have HI4 := Lib.hid hI4
            clear hxf hI4
            clear hb4
            go_wp2
            exact bodyPost_ret (results_cell6_tt rfl rfl Hxf.out.blk) rfl ⟨Hxf.out.below, rfl⟩
          | ok v q2 =>
            rw [hr] at hC his hw hsd
            simp only at his
            obtain ⟨hv1, hv2⟩ := hw
            rw [size_toList] at hv2
            have hsd := hsd.1
            obtain ⟨k', b', n', t', l', o'⟩ := v
            have htk := dO_snoc acc (KK, .mk k' b' n' t' l' o')
            have HLo : Hid ((dO acc).length + 1 ≤ maxLen ∧ ((dO acc).length + 1) * 104 ≤ 140737488355328) := by rw [dl]; exact ⟨by simp only [maxLen]; omega, by omega⟩
            have hP6 := past_size hv2
            have hP7 := past_ge s.data.toList q2
            have hpast2 := fun W => rpast_calls s q2 W (by omega) hv2
            generalize past s.data.toList q2 = p2 at hP6 hP7 hpast2 his
            have h125 : ∀ B, decide (s.data.toList[p2]? = some 125) = B → ∀ W, Calls Tryz.prog 96 #[.string s, .int .i64 (p2 : Nat), .int .u8 125] W fun e w' => e = .returned (.bool B) ∧ W = w' := fun B hB W => ris_calls hB W (by omega) hP6
            have h44 : ∀ B, decide (s.data.toList[p2]? = some 44) = B → ∀ W, Calls Tryz.prog 96 #[.string s, .int .i64 (p2 : Nat), .int .u8 44] W fun e w' => e = .returned (.bool B) ∧ W = w' := fun B hB W => ris_calls hB W (by omega) hP6
            have hbk : bulkO (acc ++ [(KK, Val.mk k' b' n' t' l' o')]) ≤ 6 * p2 := by rw [bulkO_snoc]; simp only [bulkP]; omega
            have hnd := hasK_not' hnk.out Hnod.out (.mk k' b' n' t' l' o')
            have hrs := HI2.out.blk.lt
            have hbl := HI2.out.below.size
            have HC := Lib.hid hC
            have HIs := Lib.hid hIs
            have Htk := Lib.hid htk
            have His := Lib.hid his
            have Hpast2 := Lib.hid hpast2
            have H125 := Lib.hid h125
            have H44 := Lib.hid h44
            have Hbk := Lib.hid hbk
            have Hnd := Lib.hid hnd
            clear hC hIs htk his hpast2 h125 h44 hbk hnd
            clear hr hsd
            go_wp2_with (fail)
            with_reducible refine (Hpast.out _).mono ?_
            rintro e w3 ⟨rfl, rfl⟩
            go_wp2_with (fail)
            with_reducible refine (HIs.out _).mono ?_
            rintro e w3 ⟨rfl, rfl⟩
            go_wp2_with (fail)
            with_reducible refine (HC.out _).mono ?_
            rintro e w4 ⟨hb4, cs, rfl, hf4⟩
            obtain ⟨la4, lc4, oa4, oc4, rfl⟩ := six_now hf4
            have hI4 := HI2.out.later hb4
            have hsz4 := hb4.size
            have hbe := (hb4.alloc hb4.size (.cells #[.int .i64 k', .bool b', .int .i64 n', .string t', .slice la4 l'.length lc4, .slice oa4 o'.length oc4] 26)).alloc (by simp; omega) (.cells #[.string KK, .int .i64 k', .bool b', .int .i64 n', .string t', .slice la4 l'.length lc4, .slice oa4 o'.length oc4] 37)
            have hfe := ((dP_fresh (key := KK) hf4).later (alloc_below w4 (.cells #[.int .i64 k', .bool b', .int .i64 n', .string t', .slice la4 l'.length lc4, .slice oa4 o'.length oc4] 26))).later (alloc_below _ (.cells #[.string KK, .int .i64 k', .bool b', .int .i64 n', .string t', .slice la4 l'.length lc4, .slice oa4 o'.length oc4] 37))
            have hI5 := (hI4.later (alloc_below w4 (.cells #[.int .i64 k', .bool b', .int .i64 n', .string t', .slice la4 l'.length lc4, .slice oa4 o'.length oc4] 26))).later (alloc_below _ (.cells #[.string KK, .int .i64 k', .bool b', .int .i64 n', .string t', .slice la4 l'.length lc4, .slice oa4 o'.length oc4] 37))
            have hrd : Reads ((w4.alloc (.cells #[.int .i64 k', .bool b', .int .i64 n', .string t', .slice la4 l'.length lc4, .slice oa4 o'.length oc4] 26)).alloc (.cells #[.string KK, .int .i64 k', .bool b', .int .i64 n', .string t', .slice la4 l'.length lc4, .slice oa4 o'.length oc4] 37)) (w4.heap.size + 1 + 1) 7 (some ⟨w4.heap.size + 1, 0, none⟩) 1 [.string KK, .int .i64 k', .bool b', .int .i64 n', .string t', .slice la4 l'.length lc4, .slice oa4 o'.length oc4] := by simpa using reads_seven (w4.alloc (.cells #[.int .i64 k', .bool b', .int .i64 n', .string t', .slice la4 l'.length lc4, .slice oa4 o'.length oc4] 26)) (.string KK) (.int .i64 k') (.bool b') (.int .i64 n') (.string t') (.slice la4 l'.length lc4) (.slice oa4 o'.length oc4)
            have Hbe := Lib.hid hbe
            have Hfe := Lib.hid hfe
            have HI5 := Lib.hid hI5
            have Hrd := Lib.hid hrd
            have HI4 := Lib.hid hI4
            have Hb4 := Lib.hid hb4
            have Hf4 := Lib.hid hf4
            clear hbe hfe hI5 hrd hI4 hb4 hf4
            go_wp2_with (at_builtin; apply Shut.out)
            unfold Shut
            refine wpList_append_D (d := dP (KK, .mk k' b' n' t' l' o')) (V := .slice aV acc.length cV) rfl (.tmp 82) (.tmp 86) 24 rfl Tryz.underlying24 Hj.out Hy0.out Hy1.out Hy2.out rfl (by omega) rfl Hrow2.out (by omega) Hbe.out (dP_cells _) Hfe.out rfl Hrd.out HLo.out.1 HLo.out.2 ?_
            intro V6 w6 hrow6 hg6 hat6
            have hI6 := HI5.out.grown hg6 (fun r e => (Hrow2.out.base r e).1)
            rw [Htk.out] at hrow6
            have dl6 : (dO (acc ++ [(KK, Val.mk k' b' n' t' l' o')])).length = (acc ++ [(KK, Val.mk k' b' n' t' l' o')]).length := dO_len _
            obtain ⟨a6, c6, rfl⟩ := hrow6.slice_n dl6
            obtain ⟨NL, hNL⟩ : ∃ NL, (acc ++ [(KK, Val.mk k' b' n' t' l' o')]).length = NL := ⟨_, rfl⟩
            have hnl1 : NL = acc.length + 1 := by rw [← hNL]; simp
            rw [hNL] at hrow6 ⊢
            have HNL := Lib.hid hNL
            have HNL1 := Lib.hid hnl1
            have HI6 := Lib.hid hI6
            have Hrow6 := Lib.hid hrow6
            clear hI6 hrow6
            clear hg6 hat6 Hbe Hfe HI5 Hrd HI4 Hb4 Hf4 hsz4 dl6 hNL hnl1
            go_wp2_with (fail)
            with_reducible refine (Hpast2.out _).mono ?_
            rintro e w8 ⟨rfl, rfl⟩
            have fz6 := HI6.out.blk.frozen
            have hlt6 := HI6.out.blk.lt
            obtain ⟨r0, r1, r2, r3, r4, r5⟩ := vcell HI6.out.blk
            cases hB : decide (s.data.toList[p2]? = some 125) with
            | true =>
              have hIs := H125.out _ hB
              have his := His.out
              rw [decide_eq_true_iff] at hB
              rw [if_neg (by rw [hB]; decide), if_pos hB] at his
              subst his
              have hO := object_walkF HCo (acc ++ [(KK, Val.mk k' b' n' t' l' o')]) a6 c6 w6 (rowO_of Hrow6.out.now) (by have := Hbk.out; omega)
              rw [HNL.out] at hO
              obtain ⟨hs1, _, _⟩ := sortO_some Hnd.out
              have HIs := Lib.hid hIs
              have HO := Lib.hid hO
              have Hs1 := Lib.hid hs1
              clear hIs hO hs1
              clear hB
              go_wp2_with (fail)
              with_reducible refine (HIs.out _).mono ?_
              rintro e w8 ⟨rfl, rfl⟩
              go_wp2_with (fail)
              with_reducible refine (HO.out).mono ?_
              rintro e w9 ⟨hb9, ⟨hn9, _⟩ | ⟨o9, oa9, oc9, ho9, rfl, hm9⟩⟩
              · exact absurd (hn9.symm.trans Hs1.out) (by simp)
              · have Ho9 : Hid (o9 = sortO (acc ++ [(KK, Val.mk k' b' n' t' l' o')])) := Option.some.inj (ho9.symm.trans Hs1.out)
                have hI9 := HI6.out.later hb9
                have fz9 := hI9.blk.frozen
                have hlt9 := hI9.blk.lt
                obtain ⟨z0, z1, z2, z3, z4, z5⟩ := vcell hI9.blk
                have hxf := (hI9.many (.int .i64 6) (.bool false) (.int .i64 0) (.string ⟨#[]⟩) (.slice none 0 0) (.slice oa9 o9.length oc9)).later (alloc_below _ (.cells #[.int .i64 6, .bool false, .int .i64 0, .string ⟨#[]⟩, .slice none 0 0, .slice oa9 o9.length oc9] 26))
                have hff := ((fresh_of_obj (oc := oc9) hm9).keep (b' := w.heap.size) (w' := setMany w9 w.heap.size 0 [.int .i64 6, .bool false, .int .i64 0, .string ⟨#[]⟩, .slice none 0 0, .slice oa9 o9.length oc9]) (by omega) (by rw [setMany_size]; exact Nat.le_refl _) (fun p p1 p2 => World.cell?_of_block (setMany_far _ _ _ _ _ (by have p1' : w6.heap.size ≤ p.block := p1; omega)))).later (alloc_below _ (.cells #[.int .i64 6, .bool false, .int .i64 0, .string ⟨#[]⟩, .slice none 0 0, .slice oa9 o9.length oc9] 26))
                have HI9 := Lib.hid hI9
                have Hxf := Lib.hid hxf
                have Hff := Lib.hid hff
                clear hI9 hxf hff
                clear hb9 ho9 hm9 r0 r1 r2 r3 r4 r5 fz6
                go_wp2
                exact bodyPost_ret (results_cell6_tt rfl rfl Hxf.out.blk) rfl ⟨Hxf.out.below, ⟨_, rfl, by rw [← Ho9.out]; exact Hff.out⟩⟩
            | false =>
              have hIs := H125.out _ hB
              have his := His.out
              rw [decide_eq_false_iff_not] at hB
              clear His
              cases hB4 : decide (s.data.toList[p2]? = some 44) with
              | true =>
                have hIs4 := H44.out _ hB4
                rw [decide_eq_true_iff] at hB4
                rw [if_pos hB4] at his
                have hlt := get_lt hB4
                rw [size_toList] at hlt
                have HN : Hid (ORf w w6 s d RES (f + 1) m (p2 + 1) (acc ++ [(KK, Val.mk k' b' n' t' l' o')]) (.slice a6 NL c6)) := ⟨HI6.out, Hrow6.out, Hnd.out, his, by omega, by omega, by rw [HNL.out, HNL1.out]; omega, by have := Hbk.out; omega⟩
                have HIs := Lib.hid hIs
                have HIs4 := Lib.hid hIs4
                clear hIs hIs4
                clear hB hB4 his
                go_wp2_with (fail)
                with_reducible refine (HIs.out _).mono ?_
                rintro e w8 ⟨rfl, rfl⟩
                go_wp2_with (fail)
                with_reducible refine (HIs4.out _).mono ?_
                rintro e w8 ⟨rfl, rfl⟩
                go_wp2
                go_roundg m
                case measure => omega
                case rel => exact ⟨m, _, _, rfl, by omega, by go_num, HN⟩
              | false =>
                have hIs4 := H44.out _ hB4
                rw [decide_eq_false_iff_not] at hB4
                rw [if_neg hB4, if_neg hB] at his
                subst his
                have hxf := HI6.out.many (.int .i64 0) (.bool false) (.int .i64 0) (.string ⟨#[]⟩) (.slice none 0 0) (.slice none 0 0)
                have HIs := Lib.hid hIs
                have HIs4 := Lib.hid hIs4
                have Hxf := Lib.hid hxf
                clear hIs hIs4 hxf
                clear hB hB4
                go_wp2_with (fail)
                with_reducible refine (HIs.out _).mono ?_
                rintro e w8 ⟨rfl, rfl⟩
                go_wp2_with (fail)
                with_reducible refine (HIs4.out _).mono ?_
                rintro e w8 ⟨rfl, rfl⟩
                go_wp2
                exact bodyPost_ret (results_cell6_tt rfl rfl Hxf.out.blk) rfl ⟨Hxf.out.below, rfl⟩
end Go.Proofs.YtgjiienipeoajaaGreatDoor
