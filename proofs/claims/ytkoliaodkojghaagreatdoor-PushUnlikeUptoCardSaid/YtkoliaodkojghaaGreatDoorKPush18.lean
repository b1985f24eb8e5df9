/- Parts, joined: What writes a list's text. Condition: a bulk of at most 10^9. -/
import Derived.Test.YtkoliaodkojghaaGreatDoorProg
import Derived.Test.YtkoliaodkojghaaGreatDoorKPush16
/- What writes a list's text. Condition: a bulk of at most 10^9. -/
namespace Go.Proofs.YtkoliaodkojghaaGreatDoor
open Go.RowKit

theorem okL_mem {l : List Val} (h : okL l) {v : Val} (hv : v ∈ l) : okV v := by
  induction l with
  | nil => cases hv
  | cons x r ih =>
    simp only [okL] at h
    rcases List.mem_cons.1 hv with rfl | hv
    · exact h.1
    · exact ih h.2 hv
theorem okO_mem {l : List (ByteArray × Val)} (h : okO l) {m : ByteArray × Val} (hv : m ∈ l) : validB m.1 = true ∧ okV m.2 := by
  induction l with
  | nil => cases hv
  | cons x r ih =>
    obtain ⟨k, v⟩ := x
    simp only [okO, okP] at h
    rcases List.mem_cons.1 hv with rfl | hv
    · exact h.1
    · exact ih h.2 hv

theorem textL_len : ∀ (l : List Val), (∀ v ∈ l, okV v → (textV v).length + 1 ≤ 6 * v.bulk) → okL l → ∀ f, (textL l f).length ≤ 6 * bulkL l
  | [], _, _, f => by simp [textL]
  | v :: r, ih, ho, f => by
    simp only [okL] at ho
    have h1 := ih v (by simp) ho.1
    have h2 := textL_len r (fun x hx => ih x (by simp [hx])) ho.2 false
    simp only [textL, bulkL, List.length_append]
    split <;> simp <;> omega
theorem textO_len : ∀ (l : List (ByteArray × Val)), (∀ m ∈ l, okV m.2 → (textV m.2).length + 1 ≤ 6 * m.2.bulk) → okO l → ∀ f, (textO l f).length ≤ 6 * bulkO l
  | [], _, _, f => by simp [textO]
  | (k, v) :: r, ih, ho, f => by
    simp only [okO, okP] at ho
    have h1 := ih (k, v) (by simp) ho.1.2
    have h2 := textO_len r (fun x hx => ih x (by simp [hx])) ho.2 false
    have h3 := quoteB_len k
    simp only [textO, textP, bulkO, bulkP, List.length_append, List.length_cons]
    simp only at h1
    split <;> simp <;> omega
theorem textV_len : ∀ (v : Val), okV v → (textV v).length + 1 ≤ 6 * v.bulk := by
  refine Val.ind ?_
  intro k b n t l o hl ho h
  simp only [okV] at h
  have h1 := textL_len l hl h.2.2.1 true
  have h2 := textO_len o ho h.2.2.2 true
  have h3 := formatBool_len b
  have h4 := Lib.itoa_length_le n h.2.1.1 h.2.1.2
  have h5 := quoteB_len t
  simp only [textV, Val.bulk]
  repeat' split
  all_goals (try simp only [List.length_cons, List.length_append, List.length_nil])
  all_goals omega

theorem textL_snoc (v : Val) : ∀ (a : List Val) (f : Bool), textL (a ++ [v]) f = textL a f ++ ((if f && a.isEmpty then [] else [44]) ++ textV v)
  | [], f => by cases f <;> simp [textL]
  | x :: r, f => by
    simp only [List.cons_append, textL, textL_snoc v r false]
    simp [List.append_assoc]
theorem textO_snoc (p : ByteArray × Val) : ∀ (a : List (ByteArray × Val)) (f : Bool), textO (a ++ [p]) f = textO a f ++ ((if f && a.isEmpty then [] else [44]) ++ textP p)
  | [], f => by cases f <;> simp [textO]
  | x :: r, f => by
    simp only [List.cons_append, textO, textO_snoc p r false]
    simp [List.append_assoc]

theorem bulkL_split {l : List Val} {k : Nat} {v : Val} (h : l[k]? = some v) : bulkL l = bulkL (l.take k) + (v.bulk + bulkL (l.drop (k + 1))) := by
  have h1 : ∀ a b : List Val, bulkL (a ++ b) = bulkL a + bulkL b := by
    intro a b
    induction a with
    | nil => simp [bulkL]
    | cons x r ih => simp only [List.cons_append, bulkL, ih]; omega
  have h2 : l = l.take k ++ (v :: l.drop (k + 1)) := by rw [← drop_of_get h, List.take_append_drop]
  conv => lhs; rw [h2, h1]
  rfl
theorem bulkO_split {l : List (ByteArray × Val)} {k : Nat} {p : ByteArray × Val} (h : l[k]? = some p) : bulkO l = bulkO (l.take k) + (bulkP p + bulkO (l.drop (k + 1))) := by
  have h1 : ∀ a b : List (ByteArray × Val), bulkO (a ++ b) = bulkO a + bulkO b := by
    intro a b
    induction a with
    | nil => simp [bulkO]
    | cons x r ih => simp only [List.cons_append, bulkO, ih]; omega
  have h2 : l = l.take k ++ (p :: l.drop (k + 1)) := by rw [← drop_of_get h, List.take_append_drop]
  conv => lhs; rw [h2, h1]
  rfl
theorem okL_take {l : List Val} (h : okL l) (k : Nat) : okL (l.take k) := by
  induction l generalizing k with
  | nil => simp [okL]
  | cons x r ih =>
    cases k with
    | zero => simp [okL]
    | succ k => simp only [okL] at h; simp only [List.take_succ_cons, okL]; exact ⟨h.1, ih h.2 k⟩
theorem okO_take {l : List (ByteArray × Val)} (h : okO l) (k : Nat) : okO (l.take k) := by
  induction l generalizing k with
  | nil => simp [okO]
  | cons x r ih =>
    cases k with
    | zero => simp [okO]
    | succ k => simp only [okO] at h; simp only [List.take_succ_cons, okO]; exact ⟨h.1, ih h.2 k⟩

/-- A block of cells that are no bytes and no writer's stands. -/
theorem Kept.cells {g j : Nat} {A W : World} (h : Kept g A W) {cs : Array Value} {t : TypeId} {fz : Nat × Nat} (hj : A.heap[j]? = some (.cells cs t fz)) (hg : j ≠ g) (ht : t ≠ 5) : W.heap[j]? = some (.cells cs t fz) :=
  h j _ hj (by simpa using hg) (fun c fz e => by injection e with _ e2 _; exact ht e2)

set_option maxHeartbeats 4000000 in
set_option maxRecDepth 100000 in
theorem writes_list (l : List Val) (IH : ∀ v ∈ l, WritesC v) (W : World) (B g p : Nat) (h5 : 5 ≤ B) (keeps : Bool) (acc : List UInt8) (la : Option Addr) (lc : Nat) (v0 v1 v2 v3 v5 : Value)
    (hp : W.heap[p]? = some (.cells #[v0, v1, v2, v3, .slice la l.length lc, v5] 45 (0, 0)))
    (gl off : Nat) (hla : l = [] ∨ (la = some ⟨gl, off, none⟩ ∧ gl < B ∧ HoldsL W B l gl off)) (hT : Tabs W) (hpg : p ≠ g) (hW : Wr W B g keeps acc) (hok : okL l) (hlen : acc.length + 6 * (6 + bulkL l) ≤ 20000000000) (hb : bulkL l ≤ 1000000000) :
    Calls Tryz.prog 74 #[.pointer (some ⟨g, 0, none⟩), .pointer (some ⟨p, 0, none⟩)] W fun e W' => e = .returned (.tuple #[]) ∧ Wr W' B g keeps (acc ++ 91 :: (textL l true ++ [93])) ∧ Below B W W' ∧ Kept g W W' := by
  have hll : l.length ≤ 1000000000 := by have := bulkL_len l; omega
  have hj1 := join_new [⟨#[91]⟩] 1 hW (by simp [flat]; omega) (by simp)
  have HJ1 := Lib.hid hj1
  clear hj1
  have HP := Lib.hid hp
  go_enter Tryz.func74, Tryz.ntmps74
  go_wp2_with (go_at_call 68; refine (HJ1.out).mono ?_; rintro e w1 ⟨rfl, hw1, hb1, hk1⟩; have hp1 := hk1.cells HP.out hpg (by decide); have c4 : w1.cell? ⟨p, 4, none⟩ = some (.slice la l.length lc) := (Lib.cell_of_heap hp1 4).trans rfl)
  have hw1' : Wr w1 B g keeps (acc ++ 91 :: textL (l.take 0) true) := by simpa [flat, textL] using hw1
  clear c4 hp1 hw1 HJ1
  go_loopw [11] (fun i wr => ∃ k : Nat, k ≤ l.length ∧ i = .int .i64 k ∧ Wr wr B g keeps (acc ++ 91 :: textL (l.take k) true) ∧ Below B W wr ∧ Kept g W wr) (fun i _ => l.length - (intOf i).toNat)
  case atStart => exact ⟨0, Nat.zero_le _, rfl, hw1', hb1, hk1⟩
  case round =>
    obtain ⟨k, hk, rfl, hw, hbw, hkw⟩ := hrel
    clear hw1' hb1 hk1
    have hBg := hw.base
    by_cases hlt : k < l.length
    · obtain ⟨rfl, hg, hL⟩ : la = some ⟨gl, off, none⟩ ∧ gl < B ∧ HoldsL W B l gl off := by
        rcases hla with rfl | h
        · simp at hlt
        · exact h
      obtain ⟨v, hv⟩ : ∃ v, l[k]? = some v := ⟨_, List.getElem?_eq_getElem hlt⟩
      have hmem : v ∈ l := List.mem_of_getElem? hv
      have hsp := bulkL_split hv
      have IHv := Lib.hid (IH v hmem)
      have hokv := okL_mem hok hmem
      have htk : l.take (k + 1) = l.take k ++ [v] := by rw [List.take_add_one, hv]; rfl
      have htl := textL_len (l.take k) (fun x _ => textV_len x) (okL_take hok k) true
      have hfin : acc ++ 91 :: textL (l.take (k + 1)) true = ((acc ++ 91 :: textL (l.take k) true) ++ (if (k : Int) = 0 then [] else [44])) ++ textV v := by
        rw [htk, textL_snoc]
        have e : ((true && (l.take k).isEmpty) = true) ↔ (k : Int) = 0 := by
          rw [Bool.true_and, List.isEmpty_iff]
          constructor
          · intro h
            have := congrArg List.length h
            rw [List.length_take, List.length_nil] at this
            omega
          · intro h
            have : k = 0 := by omega
            subst this
            rfl
        by_cases h0 : (k : Int) = 0
        · rw [if_pos h0, if_pos (e.2 h0)]; simp
        · rw [if_neg h0, if_neg (fun h => h0 (e.1 h))]; simp
      have hpos := v.bulk_pos
      have hlenA : (acc ++ 91 :: textL (l.take k) true).length + 6 * (v.bulk + 1) ≤ 20000000000 := by
        rw [List.length_append, List.length_cons]; omega
      generalize acc ++ 91 :: textL (l.take k) true = A at *
      have Hfin := Lib.hid hfin
      clear hfin htk htl IH hla
      obtain ⟨k', b', n', t', l', o'⟩ := v
      have hLr := hL.below hg hbw
      obtain ⟨la', lc', oa', oc', hvs, c0, c1, c2, c3, c4, c5⟩ := hLr.six hv
      clear hL hLr hv hmem hok
      obtain ⟨wA, hwA⟩ : ∃ wA, wr.alloc (.cells #[.int .i64 k', .bool b', .int .i64 n', .string t', .slice la' l'.length lc', .slice oa' o'.length oc'] 45) = wA := ⟨_, rfl⟩
      have hAw : Below wr.heap.size wr wA := by rw [← hwA]; exact (Below.refl _ _).alloc (Nat.le_refl _) _
      have hbox : wA.heap[wr.heap.size]? = some (.cells #[.int .i64 k', .bool b', .int .i64 n', .string t', .slice la' l'.length lc', .slice oa' o'.length oc'] 45 (0, 0)) := by rw [← hwA]; exact heap_alloc_new _ _
      have hgw := hw.lt
      have HTr := Lib.hid (fun W' (hb' : Below B wr W') => hT.keep (hbw.trans hb') h5)
      have HVr := Lib.hid (fun W' (hb' : Below B wr W') => hvs.below hb')
      have hszA : wA.heap.size = wr.heap.size + 1 := by rw [← hwA]; simp
      have hj : ∀ (S : List UInt8), S.length ≤ 1 → Calls Tryz.prog 68 #[.pointer (some ⟨g, 0, none⟩), .slice (some ⟨wA.heap.size, 0, none⟩) 1 1] (wA.alloc (.cells #[.string ⟨S.toArray⟩] 9 (0, 0))) fun e w' => e = .returned (.tuple #[]) ∧ Wr w' B g keeps (A ++ S) ∧ Below B wA w' ∧ Kept g wA w' := fun S hS => by
        have := join_new [⟨S.toArray⟩] 1 (hw.below hAw) (by rw [flat_one]; omega) (by simp)
        rwa [flat_one] at this
      have hj1 := hj (if (k : Int) = 0 then [] else [44]) (by split <;> simp)
      have hs2 : (if (k : Int) = 0 then [] else [44] : List UInt8).length ≤ 1 := by split <;> simp
      have cBt := between_calls (k : Int) wA
      generalize (if (k : Int) = 0 then [] else [44] : List UInt8) = S at hj1 hs2 cBt Hfin
      rw [hszA] at hj1
      subst hwA
      have HJ := Lib.hid hj1
      have CB := Lib.hid cBt
      clear hj1 hj cBt
      have HOK := Lib.hid hokv
      have ent := enters_ownF
      clear hokv hvs
      have HB := Lib.hid hbox
      have hne : wr.heap.size ≠ g := by omega
      go_wp2_with (first | (go_at_call 75; refine (CB.out).mono ?_; rintro e wx ⟨rfl, rfl⟩) | (go_at_call 68; refine (HJ.out).mono ?_; rintro e w2 ⟨rfl, h1, h2, h3⟩; have hz2 := h1.lt; have hb2 := h3.cells HB.out hne (by decide); have d0 : w2.cell? ⟨wr.heap.size, 0, none⟩ = some (.int .i64 k') := (Lib.cell_of_heap hb2 0).trans rfl; have d1 : w2.cell? ⟨wr.heap.size, 1, none⟩ = some (.bool b') := (Lib.cell_of_heap hb2 1).trans rfl; have d2 : w2.cell? ⟨wr.heap.size, 2, none⟩ = some (.int .i64 n') := (Lib.cell_of_heap hb2 2).trans rfl; have d3 : w2.cell? ⟨wr.heap.size, 3, none⟩ = some (.string t') := (Lib.cell_of_heap hb2 3).trans rfl; have d4 : w2.cell? ⟨wr.heap.size, 4, none⟩ = some (.slice la' l'.length lc') := (Lib.cell_of_heap hb2 4).trans rfl; have d5 : w2.cell? ⟨wr.heap.size, 5, none⟩ = some (.slice oa' o'.length oc') := (Lib.cell_of_heap hb2 5).trans rfl) | (go_at_call 37; refine (own_calls k' b' n' t' la' oa' l'.length lc' o'.length oc' w2).mono ?_; rintro e w3 ⟨rfl, rfl⟩) | (go_at_fn (ownF k'); refine (IHv.out _ B g w2.heap.size keeps (A ++ S) (cells6 k' b' n' t' la' l'.length lc' oa' o'.length oc') k' b' n' t' l' o' rfl h5 (HTr.out _ ?_) (HVr.out _ ?_) (heap_alloc_new _ _) ?_ (h1.below ((Below.refl _ _).alloc (Nat.le_refl _) _)) HOK.out ?_ ?_).mono ?_; rotate_right; rintro e w4 ⟨rfl, h6, h7, h8⟩))
      go_roundw
      case rel =>
        refine ⟨k + 1, by omega, by go_num, ?_, hbw.trans ((((Below.refl B wr).alloc (by omega) _).trans h2).trans (((Below.refl B w2).alloc (by omega) _).trans h7)), (hkw.trans (((Lib.OthersKept.refl _ _ wr).alloc _).trans h3)).trans (((Lib.OthersKept.refl _ _ w2).alloc _).trans h8)⟩
        rw [Hfin.out]
        exact h6
      case measure => simp [intOf]; omega
      · exact (((Below.refl B wr).alloc (by omega) _).trans h2).alloc (by omega) _
      · exact (((Below.refl B wr).alloc (by omega) _).trans h2).alloc (by omega) _
      · omega
      · omega
      · rw [List.length_append]; omega
    · obtain rfl : k = l.length := by omega
      rw [List.take_length] at hw
      have htl := textL_len l (fun x _ => textV_len x) hok true
      have hj2 := join_new [⟨#[93]⟩] 1 hw (by rw [List.length_append, List.length_cons]; simp [flat]; omega) (by simp)
      have HJ := Lib.hid hj2
      clear hj2 htl hok
      have hgw := hw.lt
      have hBg := hw.base
      have e : flat [⟨#[93]⟩] = [93] := by simp [flat]
      go_wp2_with (go_at_call 68; refine (HJ.out).mono ?_; rintro e w2 ⟨rfl, h1, h2, h3⟩)
      go_end0
      rw [e, List.append_assoc, List.cons_append] at h1
      exact ⟨rfl, h1, hbw.trans h2, hkw.trans h3⟩

end Go.Proofs.YtkoliaodkojghaaGreatDoor
