/- Parts, joined: Cells of values: how a result's variable holds one, how one lies in a new block. Plain over the program's types. No condition. value.Deep: how deep a value is. Condition: a bulk of at most 10^8. A text's bytes: what '[]byte(s)' makes. No condition. -/
import Derived.Test.YtemceefalkfneaaGreatDoorProg
import Derived.Lib.UnsafeStr
import Derived.Lib.Strings
import Derived.Test.YtemceefalkfneaaGreatDoorKCm2
import Derived.Test.YtemceefalkfneaaGreatDoorKCm3
import Derived.Test.YtemceefalkfneaaGreatDoorKCm4
import Derived.Test.YtemceefalkfneaaGreatDoorKCm12
import Derived.Test.YtemceefalkfneaaGreatDoorKCm14
import Derived.Test.YtemceefalkfneaaGreatDoorKCm15
/- Cells of values: how a result's variable holds one, how one lies in a new block. Plain over the program's types. No condition. -/
namespace Go.Proofs.YtemceefalkfneaaGreatDoor
open Go Go.RowKit

abbrev zero6 : Array Value := #[.int .i64 0, .bool false, .int .i64 0, .string ⟨#[]⟩, .slice none 0 0, .slice none 0 0]
theorem six_now {B : Nat} {w4 : World} {k : Int} {b : Bool} {n : Int} {t : ByteArray} {l : List Val} {o : List (ByteArray × Val)} {cs : List Value} (h : Fresh B w4 (dV (.mk k b n t l o)) cs) : ∃ la lc oa oc, cs = [.int .i64 k, .bool b, .int .i64 n, .string t, .slice la l.length lc, .slice oa o.length oc] := by
  have h1 := holdsV_of _ _ h.now
  simp only [HoldsV] at h1
  obtain ⟨la, lc, oa, oc, e, _, _⟩ := h1
  exact ⟨la, lc, oa, oc, e⟩
theorem vcell {w : World} {g : Nat} {t : TypeId} {a0 a1 a2 a3 a4 a5 : Value} (h : Blk w g t #[a0, a1, a2, a3, a4, a5]) :
    w.cell? ⟨g, 0, none⟩ = some a0 ∧ w.cell? ⟨g, 1, none⟩ = some a1 ∧ w.cell? ⟨g, 2, none⟩ = some a2 ∧ w.cell? ⟨g, 3, none⟩ = some a3 ∧ w.cell? ⟨g, 4, none⟩ = some a4 ∧ w.cell? ⟨g, 5, none⟩ = some a5 :=
  ⟨h.cell 0, h.cell 1, h.cell 2, h.cell 3, h.cell 4, h.cell 5⟩
theorem dP_fresh {B : Nat} {w : World} {key : ByteArray} {v : Val} {cs : List Value} (h : Fresh B w (dV v) cs) : Fresh B w (dP (key, v)) (.string key :: cs) := fun w'' h1 h2 => ⟨[.string key], cs, rfl, ⟨rfl, rfl⟩, cs, [], by simp, h w'' h1 h2, rfl⟩


theorem mem_info : (Tryz.prog.info? 57).map (fun i => (i.zero, i.size, i.bytes)) = some (some (.agg #[.string ⟨#[]⟩, .int .i64 0, .bool false, .int .i64 0, .string ⟨#[]⟩, .slice none 0 0, .slice none 0 0]), 7, 104) := by kernel_rfl
/-- A value as the result's variable holds it. -/
theorem results_cell6 {fn : Func} {t : Tmp} {tmps : Array Value} {W : World} {R : Nat} {a0 a1 a2 a3 a4 a5 : Value} (h : fn.results = #[.cell t 52]) (hp : tmps.getD t undef = .pointer (some ⟨R, 0, none⟩)) (hx : Blk W R 52 #[a0, a1, a2, a3, a4, a5]) :
    (results fn tmps).run Tryz.prog W = .ok (.agg #[a0, a1, a2, a3, a4, a5]) W := by
  obtain ⟨c0, c1, c2, c3, c4, c5⟩ := vcell hx
  clear hx
  have hp' : tmps[t]?.getD undef = .pointer (some ⟨R, 0, none⟩) := by simpa using hp
  simp [results, h, hp', go_sem, c0, c1, c2, c3, c4, c5]
theorem RowD.slice_n {b : Nat} {t : TypeId} {s n : Nat} {wr : World} {l : List D} {V : Value} (h : RowD b t s wr l V) (hn : l.length = n) : ∃ a c, V = .slice a n c := by
  subst hn; exact h.slice
theorem blk_app {w w6 : World} {R b : Nat} {t e : TypeId} {sz : Nat} {l : List D} {V : Value} {cs : Array Value} {wr : World} (h : Blk w R t cs) (hg : w.grownBy w6 V.ownBlock) (hr : RowD b e sz wr l V) (hR : R < b) : Blk w6 R t cs :=
  h.grown hg fun e => by have := (hr.base R e.symm).1; omega
theorem below_app {w w6 : World} {B b : Nat} {e : TypeId} {sz : Nat} {l : List D} {V : Value} {w0 wr : World} (h : Below B w0 w) (hg : w.grownBy w6 V.ownBlock) (hr : RowD b e sz wr l V) (hB : B ≤ b) (hBw : B ≤ w.heap.size) : Below B w0 w6 :=
  h.grown hg hBw fun k hk => Nat.le_trans hB (hr.base k hk).1
theorem reads_seven (w : World) (a0 a1 a2 a3 a4 a5 a6 : Value) : Reads (w.alloc (.cells #[a0, a1, a2, a3, a4, a5, a6] 57)) (w.heap.size + 1) 7 (some ⟨w.heap.size, 0, none⟩) 1 [a0, a1, a2, a3, a4, a5, a6] := reads_one (Blk.new w 57 #[a0, a1, a2, a3, a4, a5, a6])
theorem val_info : (Tryz.prog.info? 52).map (fun i => (i.zero, i.size, i.bytes)) = some (some (.agg #[.int .i64 0, .bool false, .int .i64 0, .string ⟨#[]⟩, .slice none 0 0, .slice none 0 0]), 6, 88) := by kernel_rfl
theorem reads_six (w : World) (a0 a1 a2 a3 a4 a5 : Value) : Reads (w.alloc (.cells #[a0, a1, a2, a3, a4, a5] 52)) (w.heap.size + 1) 6 (some ⟨w.heap.size, 0, none⟩) 1 [a0, a1, a2, a3, a4, a5] := reads_one (Blk.new w 52 #[a0, a1, a2, a3, a4, a5])
theorem results_cell6_t {fn : Func} {t u : Tmp} {tmps : Array Value} {W : World} {R : Nat} {a0 a1 a2 a3 a4 a5 : Value} (h : fn.results = #[.cell t 52, .tmp u]) (hp : tmps.getD t undef = .pointer (some ⟨R, 0, none⟩)) (hx : Blk W R 52 #[a0, a1, a2, a3, a4, a5]) :
    (results fn tmps).run Tryz.prog W = .ok (.tuple #[.agg #[a0, a1, a2, a3, a4, a5], tmps.getD u undef]) W := by
  obtain ⟨c0, c1, c2, c3, c4, c5⟩ := vcell hx
  clear hx
  have hp' : tmps[t]?.getD undef = .pointer (some ⟨R, 0, none⟩) := by simpa using hp
  simp [results, h, hp', go_sem, c0, c1, c2, c3, c4, c5]
theorem results_cell6_tt {fn : Func} {t u u' : Tmp} {tmps : Array Value} {W : World} {R : Nat} {a0 a1 a2 a3 a4 a5 : Value} (h : fn.results = #[.cell t 52, .tmp u, .tmp u']) (hp : tmps.getD t undef = .pointer (some ⟨R, 0, none⟩)) (hx : Blk W R 52 #[a0, a1, a2, a3, a4, a5]) :
    (results fn tmps).run Tryz.prog W = .ok (.tuple #[.agg #[a0, a1, a2, a3, a4, a5], tmps.getD u undef, tmps.getD u' undef]) W := by
  obtain ⟨c0, c1, c2, c3, c4, c5⟩ := vcell hx
  clear hx
  have hp' : tmps[t]?.getD undef = .pointer (some ⟨R, 0, none⟩) := by simpa using hp
  simp [results, h, hp', go_sem, c0, c1, c2, c3, c4, c5]
end Go.Proofs.YtemceefalkfneaaGreatDoor

/- value.Deep: how deep a value is. Condition: a bulk of at most 10^8. -/
namespace Go.Proofs.YtemceefalkfneaaGreatDoor
open Go.RowKit

mutual
/-- How deep a value is. -/
def deepV : Val → Nat
  | .mk k _ _ _ l o => 1 + (if k = 5 then deepL l else if k = 6 then deepO o else 0)
def deepL : List Val → Nat
  | [] => 0
  | v :: r => max (deepV v) (deepL r)
def deepO : List (ByteArray × Val) → Nat
  | [] => 0
  | p :: r => max (deepP p) (deepO r)
def deepP : ByteArray × Val → Nat
  | (_, v) => deepV v
end

theorem deepL_le : ∀ (l : List Val), (∀ v ∈ l, deepV v ≤ v.bulk) → deepL l ≤ bulkL l
  | [], _ => by simp [deepL]
  | v :: r, h => by
    have h1 := h v (by simp)
    have h2 := deepL_le r (fun x hx => h x (by simp [hx]))
    simp only [deepL, bulkL]
    omega
theorem deepO_le : ∀ (l : List (ByteArray × Val)), (∀ m ∈ l, deepV m.2 ≤ m.2.bulk) → deepO l ≤ bulkO l
  | [], _ => by simp [deepO]
  | (k, v) :: r, h => by
    have h1 := h (k, v) (by simp)
    have h2 := deepO_le r (fun x hx => h x (by simp [hx]))
    simp only [deepO, deepP, bulkO, bulkP]
    simp only at h1
    omega
theorem deepV_le : ∀ v : Val, deepV v ≤ v.bulk := by
  refine Val.ind ?_
  intro k b n t l o hl ho
  have h1 := deepL_le l hl
  have h2 := deepO_le o ho
  simp only [deepV, Val.bulk]
  split
  · omega
  split <;> omega

/-- What Deep does with a value. -/
def DeepC (v : Val) : Prop := ∀ (cs : List Value) (w : World), HoldsV w w.heap.size v cs → v.bulk ≤ 100000000 →
    Calls Tryz.prog 122 #[.agg cs.toArray] w fun e w' => e = .returned (.int .i64 (deepV v)) ∧ Below w.heap.size w w'

set_option maxRecDepth 100000 in
set_option maxHeartbeats 2000000 in
theorem deep_list (b : Bool) (n : Int) (t : ByteArray) (l : List Val) (on : Nat) (IH : ∀ v ∈ l, DeepC v) (la oa : Option Addr) (oc lc : Nat) (w : World) (hl : l = [] ∨ ∃ g off, la = some ⟨g, off, none⟩ ∧ g < w.heap.size ∧ HoldsL w w.heap.size l g off)
    (hb : bulkL l ≤ 100000000) :
    Calls Tryz.prog 122 #[.agg #[.int .i64 5, .bool b, .int .i64 n, .string t, .slice la l.length lc, .slice oa on oc]] w fun e w' => e = .returned (.int .i64 (1 + (deepL l : Int))) ∧ Below w.heap.size w w' := by
  have hln := bulkL_len l
  have hdl := deepL_le l (fun v _ => deepV_le v)
  obtain ⟨M, hM⟩ : ∃ M, deepL l = M := ⟨_, rfl⟩
  rw [hM] at hdl ⊢
  have H0 : Hid (max 0 (deepL (l.drop 0)) = M) := by show _ = _; rw [List.drop_zero, hM]; simp
  have HI := Lib.hid IH
  clear IH hM
  go_enter Tryz.func122, Tryz.ntmps122
  go_wp2_with (fail)
  have HB1 : Hid (Below w.heap.size w (w.alloc (.cells #[.int .i64 5, .bool b, .int .i64 n, .string t, .slice la l.length lc, .slice oa on oc] 52))) := (Below.refl _ _).alloc (Nat.le_refl _) _
  go_loopw [3, 15] (fun m i wr => ∃ D k : Nat, m = .int .i64 D ∧ i = .int .i64 k ∧ k ≤ l.length ∧ Hid (max D (deepL (l.drop k)) = M) ∧ D ≤ M ∧ Hid (Below w.heap.size w wr)) (fun _ i _ => l.length - (intOf i).toNat)
  case atStart => exact ⟨0, 0, rfl, rfl, Nat.zero_le _, H0, Nat.zero_le _, HB1⟩
  case round =>
    obtain ⟨D, k, rfl, rfl, hk, hD, hDM, hbw⟩ := hrel
    clear H0 HB1
    by_cases hlt : k < l.length
    · obtain ⟨g, off, rfl, hg, hL⟩ : ∃ g off, la = some ⟨g, off, none⟩ ∧ g < w.heap.size ∧ HoldsL w w.heap.size l g off := by
        rcases hl with rfl | h
        · simp at hlt
        · exact h
      obtain ⟨x, hx⟩ : ∃ v, l[k]? = some v := ⟨_, List.getElem?_eq_getElem hlt⟩
      have hmem : x ∈ l := List.mem_of_getElem? hx
      have hbv := bulkL_mem hmem
      have hdv := deepV_le x
      have hdrop : l.drop k = x :: l.drop (k + 1) := drop_of_get hx
      have hD' := hD.out
      rw [hdrop] at hD'
      simp only [deepL] at hD'
      have IHx := HI.out x hmem
      have hz := hbw.out.size
      obtain ⟨m, hm⟩ : ∃ m, deepV x = m := ⟨_, rfl⟩
      obtain ⟨k', b', n', t', l', o'⟩ := x
      obtain ⟨la', lc', oa', oc', hvs, c0, c1, c2, c3, c4, c5⟩ := (hL.below hg hbw.out).six hx
      have CT := IHx _ (wr.alloc (.cells #[.int .i64 k', .bool b', .int .i64 n', .string t', .slice la' l'.length lc', .slice oa' o'.length oc'] 52)) (HoldsV.more (by simp; omega) _ _ (hvs.below ((Below.refl _ _).alloc hz _))) (by omega)
      rw [hm] at CT hD' hdv
      have hCT := Lib.hid CT
      have Hn : Hid (max (max D m) (deepL (l.drop (k + 1))) = M) := by show _ = _; omega
      have hmM : max D m ≤ M := by omega
      have hbA : Hid (Below w.heap.size w (wr.alloc (.cells #[.int .i64 k', .bool b', .int .i64 n', .string t', .slice la' l'.length lc', .slice oa' o'.length oc'] 52))) := hbw.out.alloc hz _
      clear CT hD hD' hdrop IHx hm hvs hx hmem hL hg hdv hbv
      by_cases hgt : D < m
      · have e1 : max D m = m := by omega
        rw [e1] at Hn hmM
        clear e1
        go_wp2_with (fail)
        with_reducible refine hCT.out.mono ?_
        rintro e w4 ⟨rfl, hb4⟩
        have hbw4 := Lib.hid (hbA.out.trans (hb4.mono hbA.out.size))
        clear hb4 hbw hbA hCT
        go_wp2
        go_roundw
        case rel => exact ⟨m, k + 1, by congr 1; omega, by go_num, by omega, Hn, hmM, hbw4⟩
        case measure => simp only [intOf]; omega
      · have e1 : max D m = D := by omega
        rw [e1] at Hn hmM
        clear e1
        go_wp2_with (fail)
        with_reducible refine hCT.out.mono ?_
        rintro e w4 ⟨rfl, hb4⟩
        have hbw4 := Lib.hid (hbA.out.trans (hb4.mono hbA.out.size))
        clear hb4 hbw hbA hCT
        go_wp2
        go_roundw
        case rel => exact ⟨D, k + 1, by congr 1; omega, by go_num, by omega, Hn, hmM, hbw4⟩
        case measure => simp only [intOf]; omega
    · obtain rfl : k = l.length := by omega
      have hD' := hD.out
      rw [List.drop_length] at hD'
      simp only [deepL] at hD'
      obtain rfl : D = M := by omega
      clear hD hD' hl
      go_wp2
      go_ret
      exact ⟨rfl, hbw.out⟩

set_option maxRecDepth 100000 in
set_option maxHeartbeats 2000000 in
theorem deep_obj (b : Bool) (n : Int) (t : ByteArray) (l : List (ByteArray × Val)) (ln : Nat) (IH : ∀ m ∈ l, DeepC m.2) (la oa : Option Addr) (oc lc : Nat) (w : World) (hl : l = [] ∨ ∃ g off, oa = some ⟨g, off, none⟩ ∧ g < w.heap.size ∧ HoldsO w w.heap.size l g off)
    (hb : bulkO l ≤ 100000000) :
    Calls Tryz.prog 122 #[.agg #[.int .i64 6, .bool b, .int .i64 n, .string t, .slice la ln lc, .slice oa l.length oc]] w fun e w' => e = .returned (.int .i64 (1 + (deepO l : Int))) ∧ Below w.heap.size w w' := by
  have hln := bulkO_len l
  have hdl := deepO_le l (fun m _ => deepV_le m.2)
  obtain ⟨M, hM⟩ : ∃ M, deepO l = M := ⟨_, rfl⟩
  rw [hM] at hdl ⊢
  have H0 : Hid (max 0 (deepO (l.drop 0)) = M) := by show _ = _; rw [List.drop_zero, hM]; simp
  have HI := Lib.hid IH
  clear IH hM
  go_enter Tryz.func122, Tryz.ntmps122
  go_wp2_with (fail)
  have HB1 : Hid (Below w.heap.size w (w.alloc (.cells #[.int .i64 6, .bool b, .int .i64 n, .string t, .slice la ln lc, .slice oa l.length oc] 52))) := (Below.refl _ _).alloc (Nat.le_refl _) _
  go_loopw [3, 29] (fun m i wr => ∃ D k : Nat, m = .int .i64 D ∧ i = .int .i64 k ∧ k ≤ l.length ∧ Hid (max D (deepO (l.drop k)) = M) ∧ D ≤ M ∧ Hid (Below w.heap.size w wr)) (fun _ i _ => l.length - (intOf i).toNat)
  case atStart => exact ⟨0, 0, rfl, rfl, Nat.zero_le _, H0, Nat.zero_le _, HB1⟩
  case round =>
    obtain ⟨D, k, rfl, rfl, hk, hD, hDM, hbw⟩ := hrel
    clear H0 HB1
    by_cases hlt : k < l.length
    · obtain ⟨g, off, rfl, hg, hL⟩ : ∃ g off, oa = some ⟨g, off, none⟩ ∧ g < w.heap.size ∧ HoldsO w w.heap.size l g off := by
        rcases hl with rfl | h
        · simp at hlt
        · exact h
      obtain ⟨⟨key, x⟩, hx⟩ : ∃ v, l[k]? = some v := ⟨_, List.getElem?_eq_getElem hlt⟩
      have hmem : (key, x) ∈ l := List.mem_of_getElem? hx
      have hbv := bulkO_mem hmem
      simp only at hbv
      have hdv := deepV_le x
      have hdrop : l.drop k = (key, x) :: l.drop (k + 1) := drop_of_get hx
      have hD' := hD.out
      rw [hdrop] at hD'
      simp only [deepO, deepP] at hD'
      have IHx := HI.out _ hmem
      have hz := hbw.out.size
      obtain ⟨m, hm⟩ : ∃ m, deepV x = m := ⟨_, rfl⟩
      obtain ⟨k', b', n', t', l', o'⟩ := x
      obtain ⟨la', lc', oa', oc', hvs, c0, c1, c2, c3, c4, c5, c6⟩ := (hL.below hg hbw.out).seven hx
      have CT := IHx _ (wr.alloc (.cells #[.string key, .int .i64 k', .bool b', .int .i64 n', .string t', .slice la' l'.length lc', .slice oa' o'.length oc'] 57)) (HoldsV.more (by simp; omega) _ _ (hvs.below ((Below.refl _ _).alloc hz _))) (show (Val.mk k' b' n' t' l' o').bulk ≤ 100000000 from by omega)
      simp only [hm] at CT
      rw [hm] at hD' hdv
      have hCT := Lib.hid CT
      have Hn : Hid (max (max D m) (deepO (l.drop (k + 1))) = M) := by show _ = _; omega
      have hmM : max D m ≤ M := by omega
      have hbA : Hid (Below w.heap.size w (wr.alloc (.cells #[.string key, .int .i64 k', .bool b', .int .i64 n', .string t', .slice la' l'.length lc', .slice oa' o'.length oc'] 57))) := hbw.out.alloc hz _
      clear CT hD hD' hdrop IHx hm hvs hx hmem hL hg hdv hbv
      have hmx : max (D : Int) (m : Int) = ((max D m : Nat) : Int) := by omega
      generalize max D m = Dm at *
      have Hmx := Lib.hid hmx
      clear hmx
      go_wp2_with (fail)
      with_reducible refine hCT.out.mono ?_
      rintro e w4 ⟨rfl, hb4⟩
      have hbw4 := Lib.hid (hbA.out.trans (hb4.mono hbA.out.size))
      clear hb4 hbw hbA hCT
      go_wp2
      go_roundw
      case rel => exact ⟨Dm, k + 1, by rw [Hmx.out], by go_num, by omega, Hn, hmM, hbw4⟩
      case measure => simp only [intOf]; omega
    · obtain rfl : k = l.length := by omega
      have hD' := hD.out
      rw [List.drop_length] at hD'
      simp only [deepO] at hD'
      obtain rfl : D = M := by omega
      clear hD hD' hl
      go_wp2
      go_ret
      exact ⟨rfl, hbw.out⟩

set_option maxRecDepth 100000 in
/-- value.Deep -/
theorem deep_calls : ∀ v, DeepC v := by
  refine Val.ind ?_
  intro k b n t l o IHl IHo cs w hV hb
  simp only [HoldsV] at hV
  obtain ⟨la, lc, oa, oc, rfl, hla, hoa⟩ := hV
  simp only [Val.bulk] at hb
  by_cases h5 : k = 5
  · subst h5
    have := deep_list b n t l o.length IHl la oa oc lc w hla (by omega)
    simpa [deepV] using this
  by_cases h6 : k = 6
  · subst h6
    have := deep_obj b n t o l.length IHo la oa oc lc w hoa (by omega)
    simpa [deepV] using this
  have e : deepV (.mk k b n t l o) = 1 := by simp [deepV, h5, h6]
  rw [e]
  have e5 : (k == 5) = false := by simpa using h5
  have e6 : (k == 6) = false := by simpa using h6
  clear e IHl IHo hla hoa hb h5 h6
  go_enter Tryz.func122, Tryz.ntmps122
  go_wp2
  go_ret
  exact ⟨rfl, (Below.refl _ _).alloc (Nat.le_refl _) _⟩

end Go.Proofs.YtemceefalkfneaaGreatDoor

/- A text's bytes: what '[]byte(s)' makes. No condition. -/
namespace Go.Proofs.YtemceefalkfneaaGreatDoor
open Go Go.RowKit

theorem cell_freeze (w : World) (a : Addr) (n : Nat) (p : Addr) : (w.freeze a n).cell? p = w.cell? p := by
  unfold World.freeze
  split
  · rfl
  · unfold World.cell?
    simp only [Array.getElem?_modify]
    by_cases h : a.block = p.block
    · rw [if_pos h]
      cases hw : w.heap[p.block]? with
      | none => rfl
      | some o => cases o <;> rfl
    · rw [if_neg h]
theorem size_freeze (w : World) (a : Addr) (n : Nat) : (w.freeze a n).heap.size = w.heap.size := by
  unfold World.freeze
  split
  · rfl
  · simp
theorem run_to_bytes {P : Program} (src dst e : TypeId) (hs : P.underlying src = some .string) (hd : P.underlying dst = some (.slice e)) (he : P.underlying e = some (.int .u8)) (s : ByteArray) (w : World) :
    ∃ cap w', (convert src dst (.string s)).run P w = .ok (.slice (some ⟨w.heap.size, 0, none⟩) s.size cap) w' ∧ Below w.heap.size w w' ∧ w'.heap.size = w.heap.size + 1 ∧
      ∀ (j : Nat) (x : UInt8), s.data.toList[j]? = some x → w'.cell? ⟨w.heap.size, j, none⟩ = some (.int .u8 x.toNat) := by
  have key : ∀ (W : World) (cap : Nat), Below w.heap.size w W → W.heap.size = w.heap.size → ∃ w', (do let a ← newRow e (s.data.map (fun b => Value.int .u8 b.toNat) ++ Array.replicate (cap - s.size) (.int .u8 0)); markStringish a; pure (Value.slice (some a) s.size cap) : Sem Value).run P W = .ok (.slice (some ⟨w.heap.size, 0, none⟩) s.size cap) w' ∧ Below w.heap.size w w' ∧ w'.heap.size = w.heap.size + 1 ∧
      ∀ (j : Nat) (x : UInt8), s.data.toList[j]? = some x → w'.cell? ⟨w.heap.size, j, none⟩ = some (.int .u8 x.toNat) := by
    intro W cap hB hz
    obtain ⟨C, hC⟩ : ∃ C, s.data.map (fun b => Value.int .u8 b.toNat) ++ Array.replicate (cap - s.size) (.int .u8 0) = C := ⟨_, rfl⟩
    rw [hC]
    have hB1 : Below w.heap.size w (W.alloc (.cells C e)) := hB.alloc (by omega) _
    have hn := heap_alloc_new W (.cells C e)
    have hsh : (W.alloc (.cells C e)).shape? W.heap.size = some (e, C.size) := by unfold World.shape?; rw [hn]
    refine ⟨(W.alloc (.cells C e)).freeze ⟨W.heap.size, C.size, none⟩ 1, ?_, Lib.below_freeze hB1 (by simp [hz]) _, by rw [size_freeze]; simp [hz], fun j x hx => ?_⟩
    · have hnew : Sem.run P (newRow e C) W = .ok ⟨W.heap.size, 0, none⟩ (W.alloc (.cells C e)) := rfl
      simp only [Sem.run_bind, hnew, Result.andThen_ok, markStringish, run_shape, hsh, run_freeze, Sem.run_pure]
      rw [hz]
    · rw [cell_freeze, ← hz, cell_of_row _ _ _ _ _ _ hn, ← hC]
      have hj := (List.getElem?_eq_some_iff.1 hx).1
      rw [Array.getElem?_append_left (by simpa using hj), Array.getElem?_map]
      rw [← Array.getElem?_toList, hx]; rfl
  by_cases hf : (Question.appendCap s.size 0 e).forced = true
  · obtain ⟨w', h1, h2⟩ := key w 0 (Below.refl _ _) rfl
    refine ⟨0, w', ?_, h2⟩
    rw [← h1]
    simp [convert, run_underlying hs, run_underlying hd, run_underlying he, Conv.stringToBytes, hf]
  · obtain ⟨w', h1, h2⟩ := key w.drew ((Question.appendCap s.size 0 e).cut (w.tape w.drawn (Question.appendCap s.size 0 e))) (Below.refl _ _).drew rfl
    refine ⟨((Question.appendCap s.size 0 e).cut (w.tape w.drawn (Question.appendCap s.size 0 e))), w', ?_, h2⟩
    rw [← h1]
    simp [convert, run_underlying hs, run_underlying hd, run_underlying he, Conv.stringToBytes, hf]
theorem dB_fresh {b g : Nat} {w' : World} {l : List UInt8} {n cap : Nat} (hn : n = l.length) (hg : b ≤ g) (hlt : g < w'.heap.size) (h : ∀ (j : Nat) (x : UInt8), l[j]? = some x → w'.cell? ⟨g, j, none⟩ = some (.int .u8 x.toNat)) : Fresh b w' (.row 1 (dB l)) [.slice (some ⟨g, 0, none⟩) n cap] := by
  subst hn
  intro w'' k1 k2
  refine ⟨_, cap, by rw [dB_len], dB_cells _, bcells l, dB_holds _ _ _, .inr ⟨g, 0, rfl, hlt, fun j u hu => ?_⟩⟩
  rw [k2 _ hg hlt, Nat.zero_add]
  unfold bcells at hu
  rw [List.getElem?_map] at hu
  obtain ⟨x, hx, rfl⟩ := Option.map_eq_some_iff.1 hu
  exact h j x hx
/-- '[]byte(s)'. -/
theorem wpList_to_bytes {P : Program} {ops : Array Oper} {rest : List Oper} {o : Oper} {a : Act} {w : World} {Q : Exit → Act → World → Prop} (hgd : o.guard = none) (src dst e : TypeId) (x : Operand)
    (ho : o.op = .convert src dst x) (hs : P.underlying src = some .string) (hd : P.underlying dst = some (.slice e)) (he : P.underlying e = some (.int .u8)) (s : ByteArray) (hx : a.eval x = .string s)
    (h : ∀ cap w', Below w.heap.size w w' → Fresh w.heap.size w' (.row 1 (dB s.data.toList)) [.slice (some ⟨w.heap.size, 0, none⟩) s.size cap] → wpList P ops Q rest (a.put o.dst (.slice (some ⟨w.heap.size, 0, none⟩) s.size cap)) w') : wpList P ops Q (o :: rest) a w :=
  wpList_plain hgd fun K hK => by
    obtain ⟨cap, w', h1, h2, h3, h4⟩ := run_to_bytes src dst e hs hd he s w
    unfold Oper.wp execOp
    simp only [ho, hx, Sem.run_bind, Sem.run_pure, Result.andThen_ok, h1]
    exact hK _ _ (h cap w' h2 (dB_fresh (Lib.size_eq s) (Nat.le_refl _) (by omega) h4))
end Go.Proofs.YtemceefalkfneaaGreatDoor
