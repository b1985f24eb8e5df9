/- Parts, joined: What may stand deep may stand higher; what is within a value that may be, may be. Plain. No condition. commonplaceref03.Text: the text of a value that may be. Condition: a bulk of at most 10^8. Why a value may not be: the reference's function. Condition: a bulk of at most 10^9. Why a value may not be: the reference's function, over an object's members. Condition: a bulk of at most 10^9. Why a value may not be: the reference's function, of every value. Condition: a bulk of at most 10^9. A value parameter in its box, and the calls on it. Condition: a bulk of at most 10^8. commonplaceref02.Within: the values at once within one. Condition: a bulk of at most 10^8. -/
import Derived.Test.YtjjbbnodmpemiaaGreatDoorProg
import Derived.Maps.AppendAt
import Derived.Test.YtjjbbnodmpemiaaGreatDoorKPull9
/- What may stand deep may stand higher; what is within a value that may be, may be. Plain. No condition. -/
namespace Go.Proofs.YtjjbbnodmpemiaaGreatDoor
open Go.RowKit

theorem mayL_less : ∀ (l : List Val), (∀ v ∈ l, ∀ d d', d' ≤ d → mayV v d = 0 → mayV v d' = 0) → ∀ d d', d' ≤ d → mayL l d = 0 → mayL l d' = 0
  | [], _, _, _, _, _ => by simp [mayL]
  | v :: r, ih, d, d', h, hm => by
    simp only [mayL] at hm ⊢
    split at hm
    · rename_i h0
      rw [if_pos (ih v (by simp) d d' h h0)]
      exact mayL_less r (fun x hx => ih x (by simp [hx])) d d' h hm
    · rename_i h0
      exact absurd hm h0
theorem mayO_less : ∀ (l : List (ByteArray × Val)), (∀ m ∈ l, ∀ d d', d' ≤ d → mayV m.2 d = 0 → mayV m.2 d' = 0) → ∀ last d d', d' ≤ d → mayO l last d = 0 → mayO l last d' = 0
  | [], _, _, _, _, _, _ => by simp [mayO]
  | (key, v) :: r, ih, last, d, d', h, hm => by
    simp only [mayO] at hm ⊢
    split at hm
    · rename_i h0
      have h0' : mayP (key, v) last d' = 0 := by
        simp only [mayP] at h0 ⊢
        split at h0
        · rename_i hv
          rw [if_pos hv]
          cases last with
          | none => exact ih (key, v) (by simp) d d' h h0
          | some q =>
            simp only at h0 ⊢
            split at h0
            · cases h0
            · rename_i hq
              rw [if_neg hq]
              exact ih (key, v) (by simp) d d' h h0
        · cases h0
      rw [if_pos h0']
      exact mayO_less r (fun x hx => ih x (by simp [hx])) _ d d' h hm
    · rename_i h0
      exact absurd hm h0
theorem mayV_less : ∀ (v : Val) d d', d' ≤ d → mayV v d = 0 → mayV v d' = 0 := by
  refine Val.ind ?_
  intro k b n t l o hl ho d d' h hm
  simp only [mayV] at hm ⊢
  split at hm
  · cases hm
  rename_i h1
  split at hm
  · cases hm
  rename_i h2
  split at hm
  · rename_i hv
    rw [if_neg h1, if_neg (by omega), if_pos hv]
    split at hm
    · rename_i h0
      rw [if_pos (mayL_less l hl (d + 1) (d' + 1) (by omega) h0)]
      exact mayO_less o ho none (d + 1) (d' + 1) (by omega) hm
    · rename_i h0
      exact absurd hm h0
  · cases hm

theorem mayL_all : ∀ {l : List Val} {d : Int}, mayL l d = 0 → ∀ v ∈ l, mayV v d = 0
  | v :: r, d, h, x, hx => by
    simp only [mayL] at h
    split at h
    · rename_i h0
      rcases List.mem_cons.1 hx with rfl | hx
      · exact h0
      · exact mayL_all h x hx
    · rename_i h0
      exact absurd h h0
theorem mayO_all : ∀ {l : List (ByteArray × Val)} {last : Option ByteArray} {d : Int}, mayO l last d = 0 → ∀ m ∈ l, validB m.1 = true ∧ mayV m.2 d = 0
  | (key, v) :: r, last, d, h, x, hx => by
    simp only [mayO] at h
    split at h
    · rename_i h0
      rcases List.mem_cons.1 hx with rfl | hx
      · simp only [mayP] at h0
        split at h0
        · rename_i hv
          refine ⟨hv, ?_⟩
          cases last with
          | none => exact h0
          | some q =>
            simp only at h0
            split at h0
            · cases h0
            · exact h0
        · cases h0
      · exact mayO_all h x hx
    · rename_i h0
      exact absurd h h0

/-- What may be at all: its parts. -/
theorem mayV_parts {k : Int} {b : Bool} {n : Int} {t : ByteArray} {l : List Val} {o : List (ByteArray × Val)} {d : Int} (h : mayV (.mk k b n t l o) d = 0) :
    oddB k b n t l.length o.length = false ∧ d ≤ 64 ∧ validB t = true ∧ mayL l (d + 1) = 0 ∧ mayO o none (d + 1) = 0 := by
  simp only [mayV] at h
  split at h
  · cases h
  rename_i h1
  split at h
  · cases h
  split at h
  · rename_i hv
    split at h
    · rename_i h0
      exact ⟨by simpa using h1, by omega, hv, h0, h⟩
    · rename_i h0
      exact absurd h h0
  · cases h

theorem inL_mem {l : List Val} (h : inL l) {x : Val} (hx : x ∈ l) : inV x := by
  induction l with
  | nil => cases hx
  | cons y r ih =>
    simp only [inL] at h
    rcases List.mem_cons.1 hx with rfl | hx
    · exact h.1
    · exact ih h.2 hx
theorem inO_mem {l : List (ByteArray × Val)} (h : inO l) {x : ByteArray × Val} (hx : x ∈ l) : inV x.2 := by
  induction l with
  | nil => cases hx
  | cons y r ih =>
    obtain ⟨key, v⟩ := y
    simp only [inO, inP] at h
    rcases List.mem_cons.1 hx with rfl | hx
    · exact h.1
    · exact ih h.2 hx

theorem textL_app : ∀ (a b : List Val) (f : Bool), textL (a ++ b) f = textL a f ++ textL b (f && a.isEmpty)
  | [], b, f => by simp [textL]
  | x :: r, b, f => by simp only [List.cons_append, textL, textL_app r b false]; simp
theorem textL_take_len (l : List Val) (k : Nat) (f : Bool) : (textL (l.take k) f).length ≤ (textL l f).length := by
  have := textL_app (l.take k) (l.drop k) f
  rw [List.take_append_drop] at this
  rw [this]
  simp
theorem textO_app : ∀ (a b : List (ByteArray × Val)) (f : Bool), textO (a ++ b) f = textO a f ++ textO b (f && a.isEmpty)
  | [], b, f => by simp [textO]
  | x :: r, b, f => by simp only [List.cons_append, textO, textO_app r b false]; simp
theorem textO_take_len (l : List (ByteArray × Val)) (k : Nat) (f : Bool) : (textO (l.take k) f).length ≤ (textO l f).length := by
  have := textO_app (l.take k) (l.drop k) f
  rw [List.take_append_drop] at this
  rw [this]
  simp

theorem size_list (s : ByteArray) : s.data.toList.length = s.size := by rw [Array.length_toList]; rfl
theorem size_mk (l : List UInt8) : (⟨l.toArray⟩ : ByteArray).size = l.length := rfl

end Go.Proofs.YtjjbbnodmpemiaaGreatDoor

/- commonplaceref03.Text: the text of a value that may be. Condition: a bulk of at most 10^8. -/
namespace Go.Proofs.YtjjbbnodmpemiaaGreatDoor
open Go.RowKit

/-- What commonplaceref03.Text does with a value. -/
def RTextC (v : Val) : Prop := ∀ (cs : List Value) (w : World) (d : Int), HoldsV w w.heap.size v cs → v.bulk ≤ 100000000 → mayV v d = 0 → inV v →
    Calls Tryz.prog 25 #[.agg cs.toArray] w fun e w' => e = .returned (.string ⟨(textV v).toArray⟩) ∧ Below w.heap.size w w'

theorem bytes_eq {T : ByteArray} {l : List UInt8} (h : T.data.toList = l) : (⟨l.toArray⟩ : ByteArray) = T := by
  subst h
  rfl
theorem app_list (a b : ByteArray) : (a ++ b).data.toList = a.data.toList ++ b.data.toList := by
  rw [ByteArray.data_append, Array.toList_append]

set_option maxRecDepth 100000 in
set_option maxHeartbeats 2000000 in
theorem rtext_list (b : Bool) (n : Int) (t : ByteArray) (l : List Val) (IH : ∀ v ∈ l, RTextC v) (la oa : Option Addr) (oc lc : Nat) (w : World) (d : Int) (hl : l = [] ∨ ∃ g off, la = some ⟨g, off, none⟩ ∧ g < w.heap.size ∧ HoldsL w w.heap.size l g off)
    (hb : bulkL l ≤ 100000000) (hm : mayL l d = 0) (hi : inL l) (hlen : (textL l true).length ≤ 700000000) :
    Calls Tryz.prog 25 #[.agg #[.int .i64 5, .bool b, .int .i64 n, .string t, .slice la l.length lc, .slice oa 0 oc]] w fun e w' => e = .returned (.string ⟨(91 :: (textL l true ++ [93])).toArray⟩) ∧ Below w.heap.size w w' := by
  have hln := bulkL_len l
  have H0 : Hid ((⟨#[91]⟩ : ByteArray).data.toList = 91 :: textL (l.take 0) true) := by show _ = _; simp [textL]
  have HI := Lib.hid IH
  have HM := Lib.hid (mayL_all hm)
  have Hi := Lib.hid (fun x hx => inL_mem hi (x := x) hx)
  clear IH hm hi
  go_enter Tryz.func25, Tryz.ntmps25
  go_wp2_with (fail)
  have hb1 : Below w.heap.size w (w.alloc (.cells #[.int .i64 5, .bool b, .int .i64 n, .string t, .slice la l.length lc, .slice oa 0 oc] 45)) := (Below.refl _ _).alloc (Nat.le_refl _) _
  have hbx1 : (w.alloc (.cells #[.int .i64 5, .bool b, .int .i64 n, .string t, .slice la l.length lc, .slice oa 0 oc] 45)).heap[w.heap.size]? = some (.cells #[.int .i64 5, .bool b, .int .i64 n, .string t, .slice la l.length lc, .slice oa 0 oc] 45 (0, 0)) := heap_alloc_new _ _
  have HB1 := Lib.hid hb1
  have HX1 := Lib.hid hbx1
  clear hb1 hbx1
  go_loopw [5, 6] (fun o i wr => ∃ (T : ByteArray) (k : Nat), o = .string T ∧ i = .int .i64 k ∧ k ≤ l.length ∧ Hid (T.data.toList = 91 :: textL (l.take k) true) ∧ Hid (Below w.heap.size w wr) ∧ Hid (wr.heap[w.heap.size]? = some (.cells #[.int .i64 5, .bool b, .int .i64 n, .string t, .slice la l.length lc, .slice oa 0 oc] 45 (0, 0)))) (fun _ i _ => l.length - (intOf i).toNat)
  case atStart => exact ⟨_, 0, rfl, rfl, Nat.zero_le _, H0, HB1, HX1⟩
  case round =>
    obtain ⟨T, k, rfl, rfl, hk, hT, hbw, hbx⟩ := hrel
    clear H0 HB1 HX1
    have hTs : T.size ≤ 700000001 := by
      have h1 := congrArg List.length hT.out
      have h2 := textL_take_len l k true
      have h3 := size_list T
      simp only [List.length_cons] at h1
      omega
    have b4 : wr.cell? ⟨w.heap.size, 4, none⟩ = some (.slice la l.length lc) := by rw [Lib.cell_of_heap hbx.out]; rfl
    have hz : w.heap.size < wr.heap.size := (Array.getElem?_eq_some_iff.1 hbx.out).1
    by_cases hlt : k < l.length
    · obtain ⟨g, off, rfl, hg, hL⟩ : ∃ g off, la = some ⟨g, off, none⟩ ∧ g < w.heap.size ∧ HoldsL w w.heap.size l g off := by
        rcases hl with rfl | h
        · simp at hlt
        · exact h
      obtain ⟨x, hx⟩ : ∃ v, l[k]? = some v := ⟨_, List.getElem?_eq_getElem hlt⟩
      have hmem : x ∈ l := List.mem_of_getElem? hx
      have hmx := HM.out x hmem
      have hix := Hi.out x hmem
      have hbv := bulkL_mem hmem
      have htk : l.take (k + 1) = l.take k ++ [x] := by rw [List.take_add_one, hx]; rfl
      have hsn := textL_snoc x (l.take k) true
      rw [← htk] at hsn
      have hXl : (textV x).length ≤ 700000000 := by
        have h1 := congrArg List.length hsn
        have h2 := textL_take_len l (k + 1) true
        simp only [List.length_append] at h1
        omega
      have IHx := HI.out x hmem
      obtain ⟨X, hX⟩ : ∃ X : ByteArray, (⟨(textV x).toArray⟩ : ByteArray) = X := ⟨_, rfl⟩
      have hXs : X.size ≤ 700000000 := by rw [← hX, size_mk]; exact hXl
      have hXd : X.data.toList = textV x := by rw [← hX]
      obtain ⟨k', b', n', t', l', o'⟩ := x
      obtain ⟨la', lc', oa', oc', hvs, c0, c1, c2, c3, c4, c5⟩ := (hL.below hg hbw.out).six hx
      have CT := IHx _ wr d (HoldsV.more (by omega) _ _ hvs) (by omega) hmx hix
      rw [hX] at CT
      have hTd : Hid (T.data.toList ++ ((if true && (l.take k).isEmpty then [] else [44]) ++ X.data.toList) = 91 :: textL (l.take (k + 1)) true) := by
        show _ = _
        rw [hsn, hT.out, hXd]; rfl
      have hCT := Lib.hid CT
      clear CT hX hXd hXl hsn htk hmx hix hbv hmem hx hL hg IHx hvs
      have hne : k ≠ 0 → (l.take k).isEmpty = false := by
        intro h
        rw [List.isEmpty_eq_false_iff]
        intro e
        have := congrArg List.length e
        rw [List.length_take, List.length_nil] at this
        omega
      by_cases hk0 : k = 0
      · subst hk0
        simp only [Nat.zero_mul, Nat.add_zero] at c0 c1 c2 c3 c4 c5
        have hTd' : Hid ((T ++ X).data.toList = 91 :: textL (l.take (0 + 1)) true) := by
          have := hTd.out
          show _ = _
          rw [app_list, ← this]
          simp
        clear hTd hT hne
        go_wp2_with (fail)
        with_reducible refine hCT.out.mono ?_
        rintro e w4 ⟨rfl, hb4⟩
        have hbw4 := Lib.hid (hbw.out.trans (hb4.mono (by omega)))
        have hbx4 := Lib.hid ((hb4.block _ hz).trans hbx.out)
        clear hb4 hbw hbx
        go_wp2
        go_roundw
        case rel => exact ⟨_, 0 + 1, rfl, by go_num, by omega, hTd', hbw4, hbx4⟩
        case measure => simp only [intOf]; omega
      · have hTd' : Hid ((T ++ ⟨#[44]⟩ ++ X).data.toList = 91 :: textL (l.take (k + 1)) true) := by
          have := hTd.out
          show _ = _
          rw [app_list, app_list, ← this, hne hk0]
          simp
        clear hTd hT hne
        have hkp : 0 < k := by omega
        go_wp2_with (fail)
        with_reducible refine hCT.out.mono ?_
        rintro e w4 ⟨rfl, hb4⟩
        have hbw4 := Lib.hid (hbw.out.trans (hb4.mono (by omega)))
        have hbx4 := Lib.hid ((hb4.block _ hz).trans hbx.out)
        clear hb4 hbw hbx
        go_wp2
        go_roundw
        case rel => exact ⟨_, k + 1, rfl, by go_num, by omega, hTd', hbw4, hbx4⟩
        case measure => simp only [intOf]; omega
    · obtain rfl : k = l.length := by omega
      have hT' := hT.out
      rw [List.take_length] at hT'
      have hE : (⟨(91 :: (textL l true ++ [93])).toArray⟩ : ByteArray) = T ++ ⟨#[93]⟩ := bytes_eq (by rw [app_list, hT']; simp)
      have HE := Lib.hid hE
      clear hE hT hT' hl
      go_wp2
      go_ret
      exact ⟨by rw [HE.out]; rfl, hbw.out⟩

set_option maxRecDepth 100000 in
set_option maxHeartbeats 4000000 in
theorem rtext_obj (b : Bool) (n : Int) (t : ByteArray) (l : List (ByteArray × Val)) (IH : ∀ m ∈ l, RTextC m.2) (la oa : Option Addr) (oc lc : Nat) (w : World) (d : Int) (hl : l = [] ∨ ∃ g off, oa = some ⟨g, off, none⟩ ∧ g < w.heap.size ∧ HoldsO w w.heap.size l g off)
    (hb : bulkO l ≤ 100000000) (last : Option ByteArray) (hm : mayO l last d = 0) (hi : inO l) (hlen : (textO l true).length ≤ 700000000) :
    Calls Tryz.prog 25 #[.agg #[.int .i64 6, .bool b, .int .i64 n, .string t, .slice la 0 lc, .slice oa l.length oc]] w fun e w' => e = .returned (.string ⟨(123 :: (textO l true ++ [125])).toArray⟩) ∧ Below w.heap.size w w' := by
  have hln := bulkO_len l
  have H0 : Hid ((⟨#[123]⟩ : ByteArray).data.toList = 123 :: textO (l.take 0) true) := by show _ = _; simp [textO]
  have HI := Lib.hid IH
  have HM := Lib.hid (mayO_all hm)
  have Hi := Lib.hid (fun x hx => inO_mem hi (x := x) hx)
  clear IH hm hi
  go_enter Tryz.func25, Tryz.ntmps25
  go_wp2_with (fail)
  have hb1 : Below w.heap.size w (w.alloc (.cells #[.int .i64 6, .bool b, .int .i64 n, .string t, .slice la 0 lc, .slice oa l.length oc] 45)) := (Below.refl _ _).alloc (Nat.le_refl _) _
  have hbx1 : (w.alloc (.cells #[.int .i64 6, .bool b, .int .i64 n, .string t, .slice la 0 lc, .slice oa l.length oc] 45)).heap[w.heap.size]? = some (.cells #[.int .i64 6, .bool b, .int .i64 n, .string t, .slice la 0 lc, .slice oa l.length oc] 45 (0, 0)) := heap_alloc_new _ _
  have HB1 := Lib.hid hb1
  have HX1 := Lib.hid hbx1
  clear hb1 hbx1
  go_loopw [7, 8] (fun o i wr => ∃ (T : ByteArray) (k : Nat), o = .string T ∧ i = .int .i64 k ∧ k ≤ l.length ∧ Hid (T.data.toList = 123 :: textO (l.take k) true) ∧ Hid (Below w.heap.size w wr) ∧ Hid (wr.heap[w.heap.size]? = some (.cells #[.int .i64 6, .bool b, .int .i64 n, .string t, .slice la 0 lc, .slice oa l.length oc] 45 (0, 0)))) (fun _ i _ => l.length - (intOf i).toNat)
  case atStart => exact ⟨_, 0, rfl, rfl, Nat.zero_le _, H0, HB1, HX1⟩
  case round =>
    obtain ⟨T, k, rfl, rfl, hk, hT, hbw, hbx⟩ := hrel
    clear H0 HB1 HX1
    have hTs : T.size ≤ 700000001 := by
      have h1 := congrArg List.length hT.out
      have h2 := textO_take_len l k true
      have h3 := size_list T
      simp only [List.length_cons] at h1
      omega
    have b4 : wr.cell? ⟨w.heap.size, 5, none⟩ = some (.slice oa l.length oc) := by rw [Lib.cell_of_heap hbx.out]; rfl
    have hz : w.heap.size < wr.heap.size := (Array.getElem?_eq_some_iff.1 hbx.out).1
    by_cases hlt : k < l.length
    · obtain ⟨g, off, rfl, hg, hL⟩ : ∃ g off, oa = some ⟨g, off, none⟩ ∧ g < w.heap.size ∧ HoldsO w w.heap.size l g off := by
        rcases hl with rfl | h
        · simp at hlt
        · exact h
      obtain ⟨⟨key, x⟩, hx⟩ : ∃ v, l[k]? = some v := ⟨_, List.getElem?_eq_getElem hlt⟩
      have hmem : (key, x) ∈ l := List.mem_of_getElem? hx
      obtain ⟨hkv, hmx⟩ := HM.out _ hmem
      have hix := Hi.out _ hmem
      have hbv := bulkO_mem hmem
      simp only at hkv hmx hix hbv
      have htk : l.take (k + 1) = l.take k ++ [(key, x)] := by rw [List.take_add_one, hx]; rfl
      have hsn := textO_snoc (key, x) (l.take k) true
      rw [← htk] at hsn
      simp only [textP] at hsn
      have hXl : (textV x).length ≤ 700000000 ∧ (quoteB key).length ≤ 700000000 := by
        have h1 := congrArg List.length hsn
        have h2 := textO_take_len l (k + 1) true
        simp only [List.length_append, List.length_cons] at h1
        omega
      have IHx := HI.out _ hmem
      obtain ⟨X, hX⟩ : ∃ X : ByteArray, (⟨(textV x).toArray⟩ : ByteArray) = X := ⟨_, rfl⟩
      have hXs : X.size ≤ 700000000 := by rw [← hX, size_mk]; exact hXl.1
      have hXd : X.data.toList = textV x := by rw [← hX]
      obtain ⟨Q, hQ⟩ : ∃ Q : ByteArray, (⟨(quoteB key).toArray⟩ : ByteArray) = Q := ⟨_, rfl⟩
      have hQs : Q.size ≤ 700000000 := by rw [← hQ, size_mk]; exact hXl.2
      have hQd : Q.data.toList = quoteB key := by rw [← hQ]
      have c0 := ((hL.below hg hbw.out).at_ hx).1
      simp only at c0
      have CQ := RQuote_calls key wr (by omega) hkv
      rw [hQ] at CQ
      have hTd : Hid (T.data.toList ++ ((if true && (l.take k).isEmpty then [] else [44]) ++ (Q.data.toList ++ (58 :: X.data.toList))) = 123 :: textO (l.take (k + 1)) true) := by
        show _ = _
        rw [hsn, hT.out, hXd, hQd]; rfl
      have hCT : Hid (∀ w', Below w.heap.size w w' → ∀ (k' : Int) (b' : Bool) (n' : Int) (t' : ByteArray) (l' : List Val) (o' : List (ByteArray × Val)) (la' oa' : Option Addr) (lc' oc' : Nat), x = .mk k' b' n' t' l' o' → HoldsV w' w.heap.size x (cells6 k' b' n' t' la' l'.length lc' oa' o'.length oc') →
          Calls Tryz.prog 25 #[.agg #[.int .i64 k', .bool b', .int .i64 n', .string t', .slice la' l'.length lc', .slice oa' o'.length oc']] w' fun e w'' => e = .returned (.string X) ∧ Below w'.heap.size w' w'') := by
        intro w' hw' k' b' n' t' l' o' la' oa' lc' oc' _ hvs
        have := IHx _ w' d (HoldsV.more hw'.size _ _ hvs) (show x.bulk ≤ 100000000 from by omega) hmx hix
        rw [hX] at this
        exact this
      have hCQ := Lib.hid CQ
      have HL : Hid (∀ w', Below w.heap.size w w' → HoldsO w' w.heap.size l g off) := fun w' h => hL.below hg h
      have HXx := Lib.hid hx
      clear CQ hX hXd hQ hQd hXl hsn htk hmx hix hbv hmem hx hL hg IHx hkv
      have hne : k ≠ 0 → (l.take k).isEmpty = false := by
        intro h
        rw [List.isEmpty_eq_false_iff]
        intro e
        have := congrArg List.length e
        rw [List.length_take, List.length_nil] at this
        omega
      obtain ⟨k', b', n', t', l', o'⟩ := x
      by_cases hk0 : k = 0
      · subst hk0
        simp only [Nat.zero_mul, Nat.add_zero] at c0
        have hTd' : Hid ((T ++ Q ++ ⟨#[58]⟩ ++ X).data.toList = 123 :: textO (l.take (0 + 1)) true) := by
          have := hTd.out
          show _ = _
          rw [app_list, app_list, app_list, ← this]
          simp
        clear hTd hT hne
        go_wp2_with (fail)
        with_reducible refine hCQ.out.mono ?_
        rintro e w4 ⟨rfl, hb4⟩
        have hbw4 := Lib.hid (hbw.out.trans (hb4.mono (by omega)))
        have hbx4 := Lib.hid ((hb4.block _ hz).trans hbx.out)
        have hz4 : w.heap.size < w4.heap.size := (Array.getElem?_eq_some_iff.1 hbx4.out).1
        have b4' : w4.cell? ⟨w.heap.size, 5, none⟩ = some (.slice (some ⟨g, off, none⟩) l.length oc) := by rw [Lib.cell_of_heap hbx4.out]; rfl
        obtain ⟨la', lc', oa', oc', hvs, _, e1, e2, e3, e4, e5, e6⟩ := (HL.out _ hbw4.out).seven HXx.out
        simp only [Nat.zero_mul, Nat.add_zero] at e1 e2 e3 e4 e5 e6
        have hCT4 := Lib.hid (hCT.out _ hbw4.out _ _ _ _ _ _ la' oa' lc' oc' rfl hvs)
        clear hb4 hbw hbx b4 c0 hvs hCT HL HXx hCQ
        go_wp2_with (fail)
        with_reducible refine hCT4.out.mono ?_
        rintro e w5 ⟨rfl, hb5⟩
        have hbw5 := Lib.hid (hbw4.out.trans (hb5.mono (by omega)))
        have hbx5 := Lib.hid ((hb5.block _ hz4).trans hbx4.out)
        clear hb5 hbw4 hbx4 hCT4
        go_wp2
        go_roundw
        case rel => exact ⟨_, 0 + 1, rfl, by go_num, by omega, hTd', hbw5, hbx5⟩
        case measure => simp only [intOf]; omega
      · have hTd' : Hid ((T ++ ⟨#[44]⟩ ++ Q ++ ⟨#[58]⟩ ++ X).data.toList = 123 :: textO (l.take (k + 1)) true) := by
          have := hTd.out
          show _ = _
          rw [app_list, app_list, app_list, app_list, ← this, hne hk0]
          simp
        clear hTd hT hne
        have hkp : 0 < k := by omega
        go_wp2_with (fail)
        with_reducible refine hCQ.out.mono ?_
        rintro e w4 ⟨rfl, hb4⟩
        have hbw4 := Lib.hid (hbw.out.trans (hb4.mono (by omega)))
        have hbx4 := Lib.hid ((hb4.block _ hz).trans hbx.out)
        have hz4 : w.heap.size < w4.heap.size := (Array.getElem?_eq_some_iff.1 hbx4.out).1
        have b4' : w4.cell? ⟨w.heap.size, 5, none⟩ = some (.slice (some ⟨g, off, none⟩) l.length oc) := by rw [Lib.cell_of_heap hbx4.out]; rfl
        obtain ⟨la', lc', oa', oc', hvs, _, e1, e2, e3, e4, e5, e6⟩ := (HL.out _ hbw4.out).seven HXx.out
        have hCT4 := Lib.hid (hCT.out _ hbw4.out _ _ _ _ _ _ la' oa' lc' oc' rfl hvs)
        clear hb4 hbw hbx b4 c0 hvs hCT HL HXx hCQ
        go_wp2_with (fail)
        with_reducible refine hCT4.out.mono ?_
        rintro e w5 ⟨rfl, hb5⟩
        have hbw5 := Lib.hid (hbw4.out.trans (hb5.mono (by omega)))
        have hbx5 := Lib.hid ((hb5.block _ hz4).trans hbx4.out)
        clear hb5 hbw4 hbx4 hCT4
        go_wp2
        go_roundw
        case rel => exact ⟨_, k + 1, rfl, by go_num, by omega, hTd', hbw5, hbx5⟩
        case measure => simp only [intOf]; omega
    · obtain rfl : k = l.length := by omega
      have hT' := hT.out
      rw [List.take_length] at hT'
      have hE : (⟨(123 :: (textO l true ++ [125])).toArray⟩ : ByteArray) = T ++ ⟨#[125]⟩ := bytes_eq (by rw [app_list, hT']; simp)
      have HE := Lib.hid hE
      clear hE hT hT' hl
      go_wp2
      go_ret
      exact ⟨by rw [HE.out]; rfl, hbw.out⟩

set_option maxRecDepth 100000 in
set_option maxHeartbeats 2000000 in
theorem rtext_plain (k : Int) (b : Bool) (n : Int) (t : ByteArray) (l : List Val) (o : List (ByteArray × Val)) (la oa : Option Addr) (oc lc : Nat) (w : World) (h5 : k ≠ 5) (h6 : k ≠ 6) (hk : k = 1 ∨ k = 2 ∨ k = 3 ∨ k = 4) (hs : t.size ≤ 1000000000) (hv : validB t = true)
    (h1 : -9223372036854775808 ≤ n) (h2 : n ≤ 9223372036854775807) :
    Calls Tryz.prog 25 #[.agg #[.int .i64 k, .bool b, .int .i64 n, .string t, .slice la l.length lc, .slice oa o.length oc]] w fun e w' => e = .returned (.string ⟨(textV (.mk k b n t l o)).toArray⟩) ∧ Below w.heap.size w w' := by
  simp only [textV]
  rcases hk with rfl | rfl | rfl | rfl
  · rw [if_neg (by decide), if_neg (by decide), if_neg (by decide), if_neg (by decide), if_neg (by decide)]
    go_enter Tryz.func25, Tryz.ntmps25
    go_wp2
    go_ret
    exact ⟨rfl, (Below.refl _ _).alloc (Nat.le_refl _) _⟩
  · rw [if_pos rfl]
    cases b
    · go_enter Tryz.func25, Tryz.ntmps25
      go_wp2
      go_ret
      exact ⟨rfl, (Below.refl _ _).alloc (Nat.le_refl _) _⟩
    · go_enter Tryz.func25, Tryz.ntmps25
      go_wp2
      go_ret
      exact ⟨rfl, (Below.refl _ _).alloc (Nat.le_refl _) _⟩
  · rw [if_neg (by decide), if_pos rfl]
    have cD := fun w => Lib.hid (digits_calls n h1 h2 w)
    have HD := Lib.hid cD
    clear cD
    go_enter Tryz.func25, Tryz.ntmps25
    go_wp2_with (fail)
    with_reducible refine (HD.out _).out.mono ?_
    rintro e w' ⟨rfl, rfl⟩
    go_wp2
    go_ret
    exact ⟨rfl, (Below.refl _ _).alloc (Nat.le_refl _) _⟩
  · rw [if_neg (by decide), if_neg (by decide), if_pos rfl]
    have cD := fun w => Lib.hid (RQuote_calls t w hs hv)
    have HD := Lib.hid cD
    clear cD
    go_enter Tryz.func25, Tryz.ntmps25
    go_wp2_with (fail)
    with_reducible refine (HD.out _).out.mono ?_
    rintro e w' ⟨rfl, hb⟩
    go_wp2
    go_ret
    exact ⟨rfl, ((Below.refl _ _).alloc (Nat.le_refl _) _).trans (hb.mono (by simp))⟩

/-- commonplaceref03.Text, of every value that may be. -/
theorem rtext_calls : ∀ v, RTextC v := by
  refine Val.ind ?_
  intro k b n t l o IHl IHo cs w d hV hb hm hi
  have hok := okV_of _ d hm hi
  have hlen := textV_len _ hok
  obtain ⟨hodd, _, hvt, hmL, hmO⟩ := mayV_parts hm
  simp only [HoldsV] at hV
  obtain ⟨la, lc, oa, oc, rfl, hla, hoa⟩ := hV
  simp only [inV] at hi
  simp only [Val.bulk] at hb hlen
  by_cases h5 : k = 5
  · subst h5
    have ho : o = [] := by
      have : o.length = 0 := by
        unfold oddB at hodd
        simp at hodd
        simp [hodd]
      exact List.length_eq_zero_iff.1 this
    subst ho
    have ht : textV (.mk 5 b n t l []) = 91 :: (textL l true ++ [93]) := by simp [textV]
    rw [ht] at hlen ⊢
    simp only [List.length_cons, List.length_append, List.length_nil] at hlen
    exact rtext_list b n t l IHl la oa oc lc w (d + 1) hla (by omega) hmL hi.2.1 (by omega)
  by_cases h6 : k = 6
  · subst h6
    have hl : l = [] := by
      have : l.length = 0 := by
        unfold oddB at hodd
        simp at hodd
        simp [hodd]
      exact List.length_eq_zero_iff.1 this
    subst hl
    have ht : textV (.mk 6 b n t [] o) = 123 :: (textO o true ++ [125]) := by simp [textV]
    rw [ht] at hlen ⊢
    simp only [List.length_cons, List.length_append, List.length_nil] at hlen
    exact rtext_obj b n t o IHo la oa oc lc w (d + 1) hoa (by omega) none hmO hi.2.2 (by omega)
  have hk : k = 1 ∨ k = 2 ∨ k = 3 ∨ k = 4 := by
    unfold oddB at hodd
    by_cases a1 : k = 1
    · exact .inl a1
    by_cases a2 : k = 2
    · exact .inr (.inl a2)
    by_cases a3 : k = 3
    · exact .inr (.inr (.inl a3))
    by_cases a4 : k = 4
    · exact .inr (.inr (.inr a4))
    simp [a1, a2, a3, a4, h5, h6] at hodd
  exact rtext_plain k b n t l o la oa oc lc w h5 h6 hk (by omega) hvt hi.1.1 hi.1.2

end Go.Proofs.YtjjbbnodmpemiaaGreatDoor

/- Why a value may not be: the reference's function. Condition: a bulk of at most 10^9. -/
namespace Go.Proofs.YtjjbbnodmpemiaaGreatDoor
open Go.RowKit

theorem bare_calls2 {k : Int} {b : Bool} {n : Int} {t : ByteArray} {la oa : Option Addr} {ln lc on oc : Nat} {B : Bool} (h : oddB k b n t ln on = B) (w : World) :
  Calls Tryz.prog 100 #[.agg #[.int .i64 k, .bool b, .int .i64 n, .string t, .slice la ln lc, .slice oa on oc]] w fun e w' => e = .returned (.bool (!B)) ∧ Below w.heap.size w w' := by
  subst h
  exact bare_calls _ _ _ _ _ _ _ _ _ _ _

theorem RValid_calls2 {s : ByteArray} {B : Bool} (h : validB s = B) (w : World) (hs : s.size ≤ 1000000000) :
    Calls Tryz.prog 52 #[.string s] w fun e w' => e = .returned (.bool B) ∧ w = w' := by
  subst h
  exact RValid_calls _ _ hs

def MayRC (v : Val) : Prop := ∀ (cs : List Value) (d : Int) (w : World), HoldsV w w.heap.size v cs → v.bulk ≤ 1000000000 → 0 ≤ d → d ≤ 65 →
    Calls Tryz.prog 76 #[.agg cs.toArray, .int .i64 d] w fun e w' => e = .returned (.int .i64 (mayV v d)) ∧ Below w.heap.size w w'

set_option maxHeartbeats 2000000 in
theorem mayR_list (k : Int) (b : Bool) (n : Int) (t : ByteArray) (l : List Val) (la oa : Option Addr) (lc oc : Nat) (d : Int) (w : World) (g off : Nat) (hla : l = [] ∨ (la = some ⟨g, off, none⟩ ∧ g < w.heap.size ∧ HoldsL w w.heap.size l g off))
    (hb : bulkL l + t.size ≤ 1000000000) (h0 : 0 ≤ d) (h64 : d ≤ 64) (IH : ∀ v ∈ l, MayRC v) (hodd : oddB k b n t l.length 0 = false) (hval : validB t = true) :
    Calls Tryz.prog 76 #[.agg #[.int .i64 k, .bool b, .int .i64 n, .string t, .slice la l.length lc, .slice oa 0 oc], .int .i64 d] w fun e w' => e = .returned (.int .i64 (mayL l (d + 1))) ∧ Below w.heap.size w w' := by
  have hlen : l.length ≤ 1000000000 := by have := bulkL_len l; omega
  have h64' : ¬ (64 < d) := by omega
  have H : Hid (mayL (l.drop 0) (d + 1) = mayL l (d + 1)) := by rw [List.drop_zero]; exact rfl
  go_enter Tryz.func76, Tryz.ntmps76
  go_wp2_with (first | (go_at_call 100; refine (bare_calls2 hodd _).mono ?_; rintro e w1 ⟨rfl, hb1⟩; obtain ⟨hc1, hf1⟩ := bcell hb1; have hz1 := hb1.size; simp only [World.size_alloc] at hz1; have hbw1 : Below w.heap.size w w1 := ((Below.refl _ _).alloc (Nat.le_refl _) _).trans (hb1.mono (by simp)); have hbox1 : w1.heap[w.heap.size]? = some (.cells #[.int .i64 k, .bool b, .int .i64 n, .string t, .slice la l.length lc, .slice oa 0 oc] 45 (0, 0)) := (hb1.block _ (by simp)).trans (heap_alloc_new _ _)) | (go_at_call 52; refine (RValid_calls2 hval _ (by omega)).mono ?_; rintro e w2 ⟨rfl, rfl⟩))
  clear hb1 hodd hc1 hf1 hz1
  go_loopw [5] (fun i wr => ∃ j : Nat, j ≤ l.length ∧ i = .int .i64 j ∧ Hid (mayL (l.drop j) (d + 1) = mayL l (d + 1)) ∧ Below w.heap.size w wr ∧ wr.heap[w.heap.size]? = some (.cells #[.int .i64 k, .bool b, .int .i64 n, .string t, .slice la l.length lc, .slice oa 0 oc] 45 (0, 0))) (fun i _ => l.length - (intOf i).toNat)
  case atStart => exact ⟨0, Nat.zero_le _, rfl, H, hbw1, hbox1⟩
  case round =>
    obtain ⟨j, hj, rfl, hm, hbw, hbox⟩ := hrel
    clear H hbw1 hbox1
    have hbx : w.heap.size < wr.heap.size := (Array.getElem?_eq_some_iff.1 hbox).1
    have b4 : wr.cell? ⟨w.heap.size, 4, none⟩ = some (.slice la l.length lc) := by rw [Lib.cell_of_heap hbox]; rfl
    have b5 : wr.cell? ⟨w.heap.size, 5, none⟩ = some (.slice oa 0 oc) := by rw [Lib.cell_of_heap hbox]; rfl
    by_cases hlt : j < l.length
    · obtain ⟨rfl, hg, hL⟩ : la = some ⟨g, off, none⟩ ∧ g < w.heap.size ∧ HoldsL w w.heap.size l g off := by
        rcases hla with rfl | h
        · simp at hlt
        · exact h
      obtain ⟨v, hv⟩ : ∃ v, l[j]? = some v := ⟨_, List.getElem?_eq_getElem hlt⟩
      have hdrop : l.drop j = v :: l.drop (j + 1) := drop_of_get hv
      have hmem : v ∈ l := List.mem_of_getElem? hv
      have hbv := bulkL_mem hmem
      have IHv := Lib.hid (IH v hmem)
      have hm' := hm.out
      rw [hdrop] at hm'
      simp only [mayL] at hm'
      clear hm hdrop hmem IH
      obtain ⟨m, hmv⟩ : ∃ m, mayV v (d + 1) = m := ⟨_, rfl⟩
      rw [hmv] at hm'
      have Hmv := Lib.hid hmv
      clear hmv
      obtain ⟨k', b', n', t', l', o'⟩ := v
      obtain ⟨la', lc', oa', oc', hvs, c0, c1, c2, c3, c4, c5⟩ := (hL.below hg hbw).six hv
      clear hla hL hv
      have hz := hbw.size
      by_cases hm0 : m = 0
      · rw [if_pos hm0] at hm'
        subst hm0
        have Hk := Lib.hid hm'
        clear hm'
        go_wp2_with (go_at_call 76; refine (IHv.out _ (d + 1) _ (HoldsV.more (by omega) _ _ hvs) (by omega) (by omega) (by omega)).mono ?_; rintro e w2 ⟨he, hb2⟩; rw [Hmv.out] at he; subst he; have hbw2 : Below w.heap.size w w2 := hbw.trans (hb2.mono hz); have hbox2 := (hb2.block _ hbx).trans hbox)
        go_roundw
        case rel => exact ⟨j + 1, by omega, by go_num, Hk, hbw2, hbox2⟩
        case measure => simp [intOf]; omega
      · rw [if_neg hm0] at hm'
        have Hk := Lib.hid hm'
        clear hm'
        have hm1 : (m == 0) = false := by simpa using hm0
        have hm2 : (m != 0) = true := by simpa using hm0
        go_wp2_with (go_at_call 76; refine (IHv.out _ (d + 1) _ (HoldsV.more (by omega) _ _ hvs) (by omega) (by omega) (by omega)).mono ?_; rintro e w2 ⟨he, hb2⟩; rw [Hmv.out] at he; subst he; have hbw2 : Below w.heap.size w w2 := hbw.trans (hb2.mono hz))
        go_ret
        exact ⟨by rw [← Hk.out]; rfl, hbw2⟩
    · obtain rfl : j = l.length := by omega
      have hm' := hm.out
      rw [List.drop_length] at hm'
      have Hm := Lib.hid hm'
      clear hm hm'
      go_wp2
      go_loopw [8] (fun i wx => i = .int .i64 0 ∧ wx = wr) (fun _ _ => 0)
      case atStart => exact ⟨rfl, rfl⟩
      case round =>
        obtain ⟨rfl, rfl⟩ := hrel
        go_wp2
        go_ret
        exact ⟨by rw [← Hm.out]; rfl, hbw⟩

end Go.Proofs.YtjjbbnodmpemiaaGreatDoor

/- Why a value may not be: the reference's function, over an object's members. Condition: a bulk of at most 10^9. -/
namespace Go.Proofs.YtjjbbnodmpemiaaGreatDoor
open Go.RowKit

set_option maxHeartbeats 4000000 in
theorem mayR_obj (k : Int) (b : Bool) (n : Int) (t : ByteArray) (o : List (ByteArray × Val)) (la oa : Option Addr) (lc oc : Nat) (d : Int) (w : World) (g off : Nat) (hoa : o = [] ∨ (oa = some ⟨g, off, none⟩ ∧ g < w.heap.size ∧ HoldsO w w.heap.size o g off))
    (hb : bulkO o + t.size ≤ 1000000000) (h0 : 0 ≤ d) (h64 : d ≤ 64) (IH : ∀ m ∈ o, MayRC m.2) (hodd : oddB k b n t 0 o.length = false) (hval : validB t = true) :
    Calls Tryz.prog 76 #[.agg #[.int .i64 k, .bool b, .int .i64 n, .string t, .slice la 0 lc, .slice oa o.length oc], .int .i64 d] w fun e w' => e = .returned (.int .i64 (mayO o none (d + 1))) ∧ Below w.heap.size w w' := by
  have hlen : o.length ≤ 1000000000 := by have := bulkO_len o; omega
  have h64' : ¬ (64 < d) := by omega
  have H : Hid (mayO (o.drop 0) (lastKey o 0) (d + 1) = mayO o none (d + 1)) := by rw [List.drop_zero]; exact rfl
  go_enter Tryz.func76, Tryz.ntmps76
  go_wp2_with (first | (go_at_call 100; refine (bare_calls2 hodd _).mono ?_; rintro e w1 ⟨rfl, hb1⟩; obtain ⟨hc1, hf1⟩ := bcell hb1; have hz1 := hb1.size; simp only [World.size_alloc] at hz1; have hbw1 : Below w.heap.size w w1 := ((Below.refl _ _).alloc (Nat.le_refl _) _).trans (hb1.mono (by simp)); have hbox1 : w1.heap[w.heap.size]? = some (.cells #[.int .i64 k, .bool b, .int .i64 n, .string t, .slice la 0 lc, .slice oa o.length oc] 45 (0, 0)) := (hb1.block _ (by simp)).trans (heap_alloc_new _ _)) | (go_at_call 52; refine (RValid_calls2 hval _ (by omega)).mono ?_; rintro e w2 ⟨rfl, rfl⟩))
  clear hb1 hodd hc1 hf1 hz1
  go_loopw [5] (fun i wx => i = .int .i64 0 ∧ wx = w1) (fun _ _ => 0)
  case atStart => exact ⟨rfl, rfl⟩
  case round =>
    obtain ⟨rfl, rfl⟩ := hrel
    have hbx0 : w.heap.size < wr.heap.size := (Array.getElem?_eq_some_iff.1 hbox1).1
    have b40 : wr.cell? ⟨w.heap.size, 4, none⟩ = some (.slice la 0 lc) := by rw [Lib.cell_of_heap hbox1]; rfl
    go_wp2
    clear b40 hbx0
    rename World => w1
    go_loopw [7, 8] (fun q i wr => ∃ j : Nat, ∃ lk : ByteArray, j ≤ o.length ∧ i = .int .i64 j ∧ q = .string lk ∧ (0 < j → lastKey o j = some lk) ∧ Hid (mayO (o.drop j) (lastKey o j) (d + 1) = mayO o none (d + 1)) ∧ Below w.heap.size w wr ∧ wr.heap[w.heap.size]? = some (.cells #[.int .i64 k, .bool b, .int .i64 n, .string t, .slice la 0 lc, .slice oa o.length oc] 45 (0, 0))) (fun _ i _ => o.length - (intOf i).toNat)
    case atStart => exact ⟨0, ByteArray.empty, Nat.zero_le _, rfl, rfl, fun h => absurd h (by omega), H, hbw1, hbox1⟩
    case round =>
      obtain ⟨j, q, hj, rfl, rfl, hlk, hm, hbw, hbox⟩ := hrel
      clear H hbw1 hbox1
      have hbx : w.heap.size < wr.heap.size := (Array.getElem?_eq_some_iff.1 hbox).1
      have b5 : wr.cell? ⟨w.heap.size, 5, none⟩ = some (.slice oa o.length oc) := by rw [Lib.cell_of_heap hbox]; rfl
      have hz := hbw.size
      by_cases hlt : j < o.length
      · obtain ⟨rfl, hg, hL⟩ : oa = some ⟨g, off, none⟩ ∧ g < w.heap.size ∧ HoldsO w w.heap.size o g off := by
          rcases hoa with rfl | h
          · simp at hlt
          · exact h
        obtain ⟨⟨key, v⟩, hv⟩ : ∃ v, o[j]? = some v := ⟨_, List.getElem?_eq_getElem hlt⟩
        have hdrop : o.drop j = (key, v) :: o.drop (j + 1) := drop_of_get hv
        have hmem : (key, v) ∈ o := List.mem_of_getElem? hv
        have hbv := bulkO_mem hmem
        simp only at hbv
        have IHv := Lib.hid (IH (key, v) hmem)
        have hlast : lastKey o (j + 1) = some key := by simp [lastKey, hv]
        have Hlast := Lib.hid hlast
        have hm' := hm.out
        rw [hdrop] at hm'
        simp only [mayO, mayP, ← hlast] at hm'
        clear hm hdrop hmem IH hlast
        have hLr := hL.below hg hbw
        have hgr : g < wr.heap.size := by omega
        obtain ⟨k', b', n', t', l', o'⟩ := v
        obtain ⟨la', lc', oa', oc', hvs, c0, c1, c2, c3, c4, c5, c6⟩ := hLr.seven hv
        clear hL hLr hv hoa
        by_cases hval2 : validB key = true
        · rw [hval2] at hm'
          simp only [if_true] at hm'
          by_cases hjp : 0 < j
          · rw [hlk hjp] at hm'
            simp only at hm'
            have hgd : decide (0 < j) = true := by simpa using hjp
            clear hlk
            by_cases hle : leB key q = true
            · rw [if_pos hle] at hm'
              unfold leB at hle
              have Hm := Lib.hid hm'
              clear hm'
              go_wp2_with (go_at_call 52; refine (RValid_calls2 hval2 _ (by omega)).mono ?_; rintro e wv ⟨rfl, rfl⟩)
              go_ret
              exact ⟨by rw [← Hm.out]; rfl, hbw⟩
            · rw [if_neg hle] at hm'
              have hle' : (Op.bytesLess key.toList q.toList || key.toList == q.toList) = false := by simpa [leB] using hle
              clear hle
              obtain ⟨m, hmv⟩ : ∃ m, mayV (.mk k' b' n' t' l' o') (d + 1) = m := ⟨_, rfl⟩
              rw [hmv] at hm'
              have Hmv := Lib.hid hmv
              clear hmv
              by_cases hm0 : m = 0
              · rw [if_pos hm0] at hm'
                subst hm0
                have Hm := Lib.hid hm'
                clear hm'
                go_wp2_with (first | (go_at_call 52; refine (RValid_calls2 hval2 _ (by omega)).mono ?_; rintro e wv ⟨rfl, rfl⟩) | (go_at_call 76; refine (IHv.out _ (d + 1) _ (HoldsV.more (by omega) _ _ hvs) (by omega) (by omega) (by omega)).mono ?_; rintro e w3 ⟨he, hb3⟩; rw [Hmv.out] at he; subst he; have hbw3 : Below w.heap.size w w3 := hbw.trans (hb3.mono hz); have hbox3 := (hb3.block _ hbx).trans hbox))
                go_roundw
                case rel => exact ⟨j + 1, key, by omega, by go_num, rfl, fun _ => Hlast.out, Hm, hbw3, hbox3⟩
                case measure => simp [intOf]; omega
              · rw [if_neg hm0] at hm'
                have hm1 : (m == 0) = false := by simpa using hm0
                have hm2 : (m != 0) = true := by simpa using hm0
                have Hm := Lib.hid hm'
                clear hm'
                go_wp2_with (first | (go_at_call 52; refine (RValid_calls2 hval2 _ (by omega)).mono ?_; rintro e wv ⟨rfl, rfl⟩) | (go_at_call 76; refine (IHv.out _ (d + 1) _ (HoldsV.more (by omega) _ _ hvs) (by omega) (by omega) (by omega)).mono ?_; rintro e w3 ⟨he, hb3⟩; rw [Hmv.out] at he; subst he; have hbw3 : Below w.heap.size w w3 := hbw.trans (hb3.mono hz); have hbox3 := (hb3.block _ hbx).trans hbox))
                go_ret
                exact ⟨by rw [← Hm.out]; rfl, hbw3⟩
          · have hlk0 : lastKey o j = none := by
              obtain rfl : j = 0 := by omega
              rfl
            rw [hlk0] at hm'
            simp only at hm'
            have hgd : decide (0 < j) = false := by simpa using hjp
            have hk0 : j ≤ 0 := by omega
            clear hlk hlk0
            obtain ⟨m, hmv⟩ : ∃ m, mayV (.mk k' b' n' t' l' o') (d + 1) = m := ⟨_, rfl⟩
            rw [hmv] at hm'
            have Hmv := Lib.hid hmv
            clear hmv
            by_cases hm0 : m = 0
            · rw [if_pos hm0] at hm'
              subst hm0
              have Hm := Lib.hid hm'
              clear hm'
              go_wp2_with (first | (go_at_call 52; refine (RValid_calls2 hval2 _ (by omega)).mono ?_; rintro e wv ⟨rfl, rfl⟩) | (go_at_call 76; refine (IHv.out _ (d + 1) _ (HoldsV.more (by omega) _ _ hvs) (by omega) (by omega) (by omega)).mono ?_; rintro e w3 ⟨he, hb3⟩; rw [Hmv.out] at he; subst he; have hbw3 : Below w.heap.size w w3 := hbw.trans (hb3.mono hz); have hbox3 := (hb3.block _ hbx).trans hbox))
              go_roundw
              case rel => exact ⟨j + 1, key, by omega, by go_num, rfl, fun _ => Hlast.out, Hm, hbw3, hbox3⟩
              case measure => simp [intOf]; omega
            · rw [if_neg hm0] at hm'
              have hm1 : (m == 0) = false := by simpa using hm0
              have hm2 : (m != 0) = true := by simpa using hm0
              have Hm := Lib.hid hm'
              clear hm'
              go_wp2_with (first | (go_at_call 52; refine (RValid_calls2 hval2 _ (by omega)).mono ?_; rintro e wv ⟨rfl, rfl⟩) | (go_at_call 76; refine (IHv.out _ (d + 1) _ (HoldsV.more (by omega) _ _ hvs) (by omega) (by omega) (by omega)).mono ?_; rintro e w3 ⟨he, hb3⟩; rw [Hmv.out] at he; subst he; have hbw3 : Below w.heap.size w w3 := hbw.trans (hb3.mono hz); have hbox3 := (hb3.block _ hbx).trans hbox))
              go_ret
              exact ⟨by rw [← Hm.out]; rfl, hbw3⟩
        · have hvf : validB key = false := by simpa using hval2
          rw [hvf] at hm'
          have Hm := Lib.hid hm'
          clear hm' hval2 hlk
          go_wp2_with (go_at_call 52; refine (RValid_calls2 hvf _ (by omega)).mono ?_; rintro e wv ⟨rfl, rfl⟩)
          go_ret
          exact ⟨by rw [← Hm.out]; simp, hbw⟩
      · obtain rfl : j = o.length := by omega
        have hm' := hm.out
        rw [List.drop_length] at hm'
        have Hm := Lib.hid hm'
        clear hm hm' hlk hoa IH
        go_wp2
        go_ret
        exact ⟨by rw [← Hm.out]; rfl, hbw⟩

end Go.Proofs.YtjjbbnodmpemiaaGreatDoor

/- Why a value may not be: the reference's function, of every value. Condition: a bulk of at most 10^9. -/
namespace Go.Proofs.YtjjbbnodmpemiaaGreatDoor
open Go.RowKit

set_option maxHeartbeats 2000000 in
theorem mayR_calls : ∀ (v : Val), MayRC v := by
  refine Val.ind ?_
  intro k b n t l o ihl iho cs d w hV hb h0 h65
  simp only [HoldsV] at hV
  obtain ⟨la, lc, oa, oc, rfl, hL, hO⟩ := hV
  simp only [Val.bulk] at hb
  by_cases hodd : oddB k b n t l.length o.length = true
  · have hm : mayV (.mk k b n t l o) d = 9 := by simp only [mayV, hodd, if_true]
    rw [hm]
    clear hm ihl iho hL hO
    go_enter Tryz.func76, Tryz.ntmps76
    go_wp2_with (go_at_call 100; refine (bare_calls2 hodd _).mono ?_; rintro e w' ⟨rfl, hb1⟩)
    go_ret
    exact ⟨rfl, ((Below.refl _ _).alloc (Nat.le_refl _) _).trans (hb1.mono (by simp))⟩
  have hodd' : oddB k b n t l.length o.length = false := by simpa using hodd
  clear hodd
  by_cases h64 : 64 < d
  · have hm : mayV (.mk k b n t l o) d = 5 := by simp only [mayV, hodd', Bool.false_eq_true, if_false, h64, if_true]
    rw [hm]
    clear hm ihl iho hL hO
    go_enter Tryz.func76, Tryz.ntmps76
    go_wp2_with (go_at_call 100; refine (bare_calls2 hodd' _).mono ?_; rintro e w' ⟨rfl, hb1⟩)
    go_ret
    exact ⟨rfl, ((Below.refl _ _).alloc (Nat.le_refl _) _).trans (hb1.mono (by simp))⟩
  by_cases hval : validB t = true
  · obtain ⟨hk, ht, hl, ho⟩ := odd_parts hodd'
    by_cases hl0 : l = []
    · subst hl0
      have hm : mayV (.mk k b n t [] o) d = mayO o none (d + 1) := by
        simp only [mayV, hodd', Bool.false_eq_true, if_false, h64, hval, if_true, mayL]
      rw [hm]
      rcases hO with rfl | ⟨g, off, rfl, hg, hO⟩
      · exact mayR_obj k b n t [] la oa lc oc d w 0 0 (.inl rfl) (by simp only [bulkO] at hb ⊢; omega) h0 (by omega) iho hodd' hval
      · exact mayR_obj k b n t o la _ lc oc d w g off (.inr ⟨rfl, hg, hO⟩) (by omega) h0 (by omega) iho hodd' hval
    · have hl1 : 0 < l.length := List.length_pos_iff.2 hl0
      obtain rfl : o = [] := List.eq_nil_of_length_eq_zero (by omega)
      have hm : mayV (.mk k b n t l []) d = mayL l (d + 1) := by
        simp only [mayV, hodd', Bool.false_eq_true, if_false, h64, hval, if_true, mayO]
        split <;> simp_all
      rw [hm]
      rcases hL with rfl | ⟨g, off, rfl, hg, hL⟩
      · exact absurd rfl hl0
      · exact mayR_list k b n t l _ oa lc oc d w g off (.inr ⟨rfl, hg, hL⟩) (by omega) h0 (by omega) ihl hodd' hval
  · have hval' : validB t = false := by simpa using hval
    have hm : mayV (.mk k b n t l o) d = 3 := by simp only [mayV, hodd', Bool.false_eq_true, if_false, h64, hval']
    rw [hm]
    clear hm ihl iho hL hO hval
    go_enter Tryz.func76, Tryz.ntmps76
    go_wp2_with (first | (go_at_call 100; refine (bare_calls2 hodd' _).mono ?_; rintro e w1 ⟨rfl, hb1⟩; obtain ⟨hc1, hf1⟩ := bcell hb1; have hz1 := hb1.size; simp only [World.size_alloc] at hz1; have hbw1 : Below w.heap.size w w1 := ((Below.refl _ _).alloc (Nat.le_refl _) _).trans (hb1.mono (by simp))) | (go_at_call 52; refine (RValid_calls2 hval' _ (by omega)).mono ?_; rintro e w2 ⟨rfl, rfl⟩))
    go_ret
    exact ⟨rfl, hbw1⟩

/-- commonplaceref02.May -/
theorem RMay_calls (v : Val) (cs : List Value) (w : World) (hV : HoldsV w w.heap.size v cs) (hb : v.bulk ≤ 1000000000) :
    Calls Tryz.prog 53 #[.agg cs.toArray] w fun e w' => e = .returned (.int .i64 (mayV v 1)) ∧ Below w.heap.size w w' := by
  have hV' := hV
  obtain ⟨k, b, n, t, l, o⟩ := v
  simp only [HoldsV] at hV'
  obtain ⟨la, lc, oa, oc, rfl, _, _⟩ := hV'
  have hc := mayR_calls _ _ 1 (w.alloc (.cells #[.int .i64 k, .bool b, .int .i64 n, .string t, .slice la l.length lc, .slice oa o.length oc] 45)) (HoldsV.more (by simp) _ _ (hV.below ((Below.refl _ _).alloc (Nat.le_refl _) _))) hb (by omega) (by omega)
  generalize mayV _ _ = m at hc ⊢
  have H := Lib.hid hc
  clear hc hV
  go_enter Tryz.func53, Tryz.ntmps53
  go_wp2_with (go_at_call 76; refine (H.out).mono ?_; rintro e w' ⟨rfl, hb1⟩)
  go_ret
  exact ⟨rfl, ((Below.refl _ _).alloc (Nat.le_refl _) _).trans (hb1.mono (by simp))⟩

end Go.Proofs.YtjjbbnodmpemiaaGreatDoor

/- A value parameter in its box, and the calls on it. Condition: a bulk of at most 10^8. -/
namespace Go.Proofs.YtjjbbnodmpemiaaGreatDoor
open Go.RowKit

theorem textS_ok' {v : Val} (h : mayV v 1 = 0) : textS v = ⟨(textV v).toArray⟩ := by unfold textS; rw [if_pos h]
theorem textS_no' {v : Val} (h : mayV v 1 ≠ 0) : textS v = ⟨#[]⟩ := by unfold textS; rw [if_neg h]

/-- A world in which block g is the box of a value parameter. -/
def Boxd (w : World) (g : Nat) (v : Val) (c : List Value) (w' : World) : Prop :=
  Below w.heap.size w w' ∧ w'.heap[g]? = some (.cells c.toArray 45 (0, 0)) ∧ Tabs w' ∧ HoldsV w' w'.heap.size v c

theorem Boxd.step {w w' w'' : World} {g : Nat} {v : Val} {c : List Value} (h : Boxd w g v c w') (hb : Below w'.heap.size w' w'') : Boxd w g v c w'' := by
  obtain ⟨h1, h2, h3, h4⟩ := h
  exact ⟨h1.trans (hb.mono h1.size), (hb.block _ (Array.getElem?_eq_some_iff.1 h2).1).trans h2, h3.below hb, HoldsV.more hb.size _ _ (h4.below hb)⟩
theorem Boxd.start {w : World} {v : Val} {c : List Value} (hT : Tabs w) (hV : HoldsV w w.heap.size v c) : Boxd w w.heap.size v c (w.alloc (.cells c.toArray 45)) := by
  have hb : Below w.heap.size w (w.alloc (.cells c.toArray 45)) := (Below.refl _ _).alloc (Nat.le_refl _) _
  exact ⟨hb, heap_alloc_new _ _, hT.below hb, HoldsV.more hb.size _ _ (hV.below hb)⟩
theorem Boxd.cells {w w' : World} {g : Nat} {v : Val} {k : Int} {b : Bool} {n : Int} {t : ByteArray} {x y : Value} (h : Boxd w g v [.int .i64 k, .bool b, .int .i64 n, .string t, x, y] w') :
    w'.cell? ⟨g, 0, none⟩ = some (.int .i64 k) ∧ w'.cell? ⟨g, 1, none⟩ = some (.bool b) ∧ w'.cell? ⟨g, 2, none⟩ = some (.int .i64 n) ∧ w'.cell? ⟨g, 3, none⟩ = some (.string t) ∧ w'.cell? ⟨g, 4, none⟩ = some x ∧ w'.cell? ⟨g, 5, none⟩ = some y :=
  box_cells h.2.1
theorem Boxd.tabs {w w' : World} {g : Nat} {v : Val} {c : List Value} (h : Boxd w g v c w') : Tabs w' := h.2.2.1
theorem Boxd.below {w w' : World} {g : Nat} {v : Val} {c : List Value} (h : Boxd w g v c w') : Below w.heap.size w w' := h.1

end Go.Proofs.YtjjbbnodmpemiaaGreatDoor

/- commonplaceref02.Within: the values at once within one. Condition: a bulk of at most 10^8. -/
namespace Go.Proofs.YtjjbbnodmpemiaaGreatDoor
open Go.RowKit


/-- What an owned row of values is, as a slice. -/
theorem own_slice {w : World} {B m : Nat} {v : Value} {ns : List Value} (h : w.ownsRow B 45 6 v m ns) :
    ∃ la lc, v = .slice la m lc ∧ (m = 0 ∨ ∃ g, la = some ⟨g, 0, none⟩ ∧ B ≤ g ∧ g < w.heap.size ∧ ∀ j u, ns[j]? = some u → w.cell? ⟨g, 0 + j, none⟩ = some u) := by
  rcases h.2 with ⟨rfl, hz⟩ | ⟨g, cap, cur, rfl, hbg, hg, _, _, _, _⟩
  · subst hz
    exact ⟨none, 0, rfl, .inl rfl⟩
  · refine ⟨_, cap, rfl, .inr ⟨g, rfl, hbg, (Array.getElem?_eq_some_iff.1 hg).1, fun j u hu => ?_⟩⟩
    have := h.cells (g := g) rfl j u hu
    rw [Go.WideShapes.add_plain] at this
    exact this

/-- What Within hands back. -/
def WithinPost (w : World) (v : Val) (e : Ending) (w' : World) : Prop :=
  (∃ la lc, e = .returned (.slice la (within v).length lc) ∧ (within v = [] ∨ ∃ g off, la = some ⟨g, off, none⟩ ∧ g < w'.heap.size ∧ HoldsL w' w'.heap.size (within v) g off)) ∧ Below w.heap.size w w'

set_option maxRecDepth 100000 in
set_option maxHeartbeats 2000000 in
theorem within_list (b : Bool) (n : Int) (t : ByteArray) (l : List Val) (o : List (ByteArray × Val)) (la oa : Option Addr) (oc lc : Nat) (w : World) (hl : l = [] ∨ ∃ g off, la = some ⟨g, off, none⟩ ∧ g < w.heap.size ∧ HoldsL w w.heap.size l g off)
    (hb : bulkL l ≤ 100000000) :
    Calls Tryz.prog 77 #[.agg #[.int .i64 5, .bool b, .int .i64 n, .string t, .slice la l.length lc, .slice oa o.length oc]] w (WithinPost w (.mk 5 b n t l o)) := by
  have hln := bulkL_len l
  have hw : within (.mk 5 b n t l o) = l := by simp [within]
  by_cases h0 : l = []
  · subst h0
    clear hl
    go_enter Tryz.func77, Tryz.ntmps77
    have Hw := Lib.hid hw
    clear hw
    cases la
    · go_wp2
      go_ret
      exact ⟨⟨none, 0, by rw [Hw.out]; rfl, .inl Hw.out⟩, (Below.refl _ _).alloc (Nat.le_refl _) _⟩
    · go_wp2
      go_ret
      exact ⟨⟨none, 0, by rw [Hw.out]; rfl, .inl Hw.out⟩, (Below.refl _ _).alloc (Nat.le_refl _) _⟩
  · obtain ⟨g, off, rfl, hg, hL⟩ := hl.resolve_left h0
    obtain ⟨i0, hi, hz0, hz1, hz2⟩ := info_parts info_val
    obtain ⟨ns, hrow, hcells⟩ := HoldsL.row hL
    obtain ⟨hnl, hno⟩ := hrow.len
    have HI := Lib.hid hi
    have HZ0 := Lib.hid hz0
    have HZ1 := Lib.hid hz1
    have HZ2 := Lib.hid hz2
    have Hrow := Lib.hid hrow
    have Hcells := Lib.hid hcells
    have Hw := Lib.hid hw
    have HN := Lib.hid hnl
    have HO := Lib.hid hno
    clear hi hz0 hz1 hz2 hrow hcells hw hnl hno hl hL
    obtain ⟨w1, hw1⟩ : ∃ w1, w.alloc (.cells #[.int .i64 5, .bool b, .int .i64 n, .string t, .slice (some ⟨g, off, none⟩) l.length lc, .slice oa o.length oc] 45) = w1 := ⟨_, rfl⟩
    have hb1 : Below w.heap.size w w1 := hw1 ▸ (Below.refl _ _).alloc (Nat.le_refl _) _
    have hbx1 : w1.heap[w.heap.size]? = some (.cells #[.int .i64 5, .bool b, .int .i64 n, .string t, .slice (some ⟨g, off, none⟩) l.length lc, .slice oa o.length oc] 45 (0, 0)) := by rw [← hw1]; exact heap_alloc_new _ _
    have hz1 : w1.heap.size = w.heap.size + 1 := by rw [← hw1]; simp
    have HB1 := Lib.hid hb1
    have HX1 := Lib.hid hbx1
    have HS1 := Lib.hid hz1
    have Hown : Hid (w1.ownsRow (w.heap.size + 1) 45 6 (.slice none 0 0) 0 []) := World.ownsRow_nil _ _ _ _
    clear hb1 hbx1 hz1
    subst hw1
    go_enter Tryz.func77, Tryz.ntmps77
    go_wp2_with (at_builtin; refine wpList_append_own _ rfl (.tmp 8) (.tmp 10) 42 rfl (w.heap.size + 1) 45 i0 (.agg #[.int .i64 0, .bool false, .int .i64 0, .string ⟨#[]⟩, .slice none 0 0, .slice none 0 0]) 6 88 Tryz.underlying42 HI.out HZ0.out HZ1.out HZ2.out rfl (by decide) (.slice none 0 0) 0 [] rfl Hown.out ⟨g, off, none⟩ l.length lc ns rfl HN.out ?c1 ?c2 ?c3 ?c4 ?c5 ?_)
    case c1 =>
      intro j u hj
      rw [Go.WideShapes.add_plain]
      exact (HB1.out.cell (p := ⟨g, off + j, none⟩) hg).trans (Hcells.out j u hj)
    case c2 => exact HO.out
    case c3 => unfold maxLen; omega
    case c4 => omega
    case c5 => simp
    intro v' w2 hown' hgrow _
    obtain ⟨la', lc', rfl, hsl⟩ := own_slice hown'
    have hbA := ((HB1.out).grown hgrow (by rw [HS1.out]; omega) (fun k hk => by simp [Value.ownBlock] at hk))
    have hbox2 : w2.heap[w.heap.size]? = some (.cells #[.int .i64 5, .bool b, .int .i64 n, .string t, .slice (some ⟨g, off, none⟩) l.length lc, .slice oa o.length oc] 45 (0, 0)) := (hgrow.block _ (by rw [HS1.out]; omega) (by simp [Value.ownBlock])).trans HX1.out
    have d0 : w2.cell? ⟨w.heap.size, 0, none⟩ = some (.int .i64 5) := by rw [Lib.cell_of_heap hbox2]; rfl
    have Hsl := Lib.hid hsl
    have HbA := Lib.hid hbA
    clear hown' hgrow hsl hbA hbox2
    go_wp2
    go_ret
    refine ⟨⟨la', lc', by rw [Hw.out]; rfl, ?_⟩, HbA.out⟩
    rw [Hw.out]
    refine .inr ?_
    rcases Hsl.out with h | ⟨g', rfl, _, hg', hc'⟩
    · exact absurd (List.length_eq_zero_iff.1 h) h0
    · exact ⟨g', 0, rfl, hg', Hrow.out.holds (fun v cs h => HoldsV.more HbA.out.size _ _ (h.below HbA.out)) hc'⟩

set_option maxRecDepth 100000 in
set_option maxHeartbeats 2000000 in
theorem within_obj (b : Bool) (n : Int) (t : ByteArray) (l : List Val) (o : List (ByteArray × Val)) (la oa : Option Addr) (oc lc : Nat) (w : World) (hl : o = [] ∨ ∃ g off, oa = some ⟨g, off, none⟩ ∧ g < w.heap.size ∧ HoldsO w w.heap.size o g off)
    (hb : bulkO o ≤ 100000000) :
    Calls Tryz.prog 77 #[.agg #[.int .i64 6, .bool b, .int .i64 n, .string t, .slice la l.length lc, .slice oa o.length oc]] w (WithinPost w (.mk 6 b n t l o)) := by
  have hln := bulkO_len o
  have hw : within (.mk 6 b n t l o) = o.map (·.2) := by simp [within]
  obtain ⟨i0, hi, hz0, hz1, hz2⟩ := info_parts info_val
  have HI := Lib.hid hi
  have HZ0 := Lib.hid hz0
  have HZ1 := Lib.hid hz1
  have HZ2 := Lib.hid hz2
  have Hw := Lib.hid hw
  clear hi hz0 hz1 hz2 hw
  obtain ⟨w1, hw1⟩ : ∃ w1, w.alloc (.cells #[.int .i64 6, .bool b, .int .i64 n, .string t, .slice la l.length lc, .slice oa o.length oc] 45) = w1 := ⟨_, rfl⟩
  have hb1 : Below w.heap.size w w1 := hw1 ▸ (Below.refl _ _).alloc (Nat.le_refl _) _
  have hbx1 : w1.heap[w.heap.size]? = some (.cells #[.int .i64 6, .bool b, .int .i64 n, .string t, .slice la l.length lc, .slice oa o.length oc] 45 (0, 0)) := by rw [← hw1]; exact heap_alloc_new _ _
  have HB1 := Lib.hid hb1
  have HX1 := Lib.hid hbx1
  have Hown : Hid (w1.ownsRow (w.heap.size + 1) 45 6 (.slice none 0 0) 0 []) := World.ownsRow_nil _ _ _ _
  have HR0 : Hid (RowL w w.heap.size ((o.take 0).map (·.2)) []) := rfl
  clear hb1 hbx1
  subst hw1
  go_enter Tryz.func77, Tryz.ntmps77
  go_wp2_with (fail)
  go_loopw [3, 4] (fun v1 i wr => ∃ (k : Nat) (ns : List Value), i = .int .i64 k ∧ k ≤ o.length ∧ Hid (wr.ownsRow (w.heap.size + 1) 45 6 v1 k ns) ∧ Hid (RowL w w.heap.size ((o.take k).map (·.2)) ns) ∧ Hid (Below w.heap.size w wr) ∧
    Hid (wr.heap[w.heap.size]? = some (.cells #[.int .i64 6, .bool b, .int .i64 n, .string t, .slice la l.length lc, .slice oa o.length oc] 45 (0, 0)))) (fun _ i _ => o.length - (intOf i).toNat)
  case atStart => exact ⟨0, [], rfl, Nat.zero_le _, Hown, HR0, HB1, HX1⟩
  case round =>
    obtain ⟨k, ns, rfl, hk, hown, hrow, hbw, hbx⟩ := hrel
    clear Hown HR0 HB1 HX1
    have b5 : wr.cell? ⟨w.heap.size, 5, none⟩ = some (.slice oa o.length oc) := by rw [Lib.cell_of_heap hbx.out]; rfl
    have hz : w.heap.size < wr.heap.size := (Array.getElem?_eq_some_iff.1 hbx.out).1
    by_cases hlt : k < o.length
    · obtain ⟨g, off, rfl, hg, hL⟩ : ∃ g off, oa = some ⟨g, off, none⟩ ∧ g < w.heap.size ∧ HoldsO w w.heap.size o g off := by
        rcases hl with rfl | h
        · simp at hlt
        · exact h
      obtain ⟨⟨key, x⟩, hx⟩ : ∃ v, o[k]? = some v := ⟨_, List.getElem?_eq_getElem hlt⟩
      have htk : (o.take (k + 1)).map (·.2) = (o.take k).map (·.2) ++ [x] := by rw [List.take_add_one, hx]; simp
      obtain ⟨k', b', n', t', l', o'⟩ := x
      obtain ⟨la', lc', oa', oc', hvs, _, e1, e2, e3, e4, e5, e6⟩ := hL.seven hx
      have cc := fun j (u : Value) (h : w.cell? ⟨g, j, none⟩ = some u) => (hbw.out.cell (p := ⟨g, j, none⟩) hg).trans h
      have c1 := cc _ _ e1
      have c2 := cc _ _ e2
      have c3 := cc _ _ e3
      have c4 := cc _ _ e4
      have c5 := cc _ _ e5
      have c6 := cc _ _ e6
      have hrow' := hrow.out.snoc hvs
      rw [← htk] at hrow'
      have Hrow := Lib.hid hrow'
      have hno := Lib.hid hvs.len.2
      clear hrow' hrow htk hx hL hg e1 e2 e3 e4 e5 e6 cc hvs
      go_wp2_with (at_builtin; refine wpList_append_own _ rfl (.tmp 22) (.tmp 29) 42 rfl (w.heap.size + 1) 45 i0 (.agg #[.int .i64 0, .bool false, .int .i64 0, .string ⟨#[]⟩, .slice none 0 0, .slice none 0 0]) 6 88 Tryz.underlying42 HI.out HZ0.out HZ1.out HZ2.out rfl (by decide) u3 k ns rfl (hown.out.alloc _) ⟨wr.heap.size, 0, none⟩ 1 1 (cells6 k' b' n' t' la' l'.length lc' oa' o'.length oc') rfl rfl ?c1 ?c2 ?c3 ?c4 ?c5 ?_)
      case c1 =>
        intro j u hj
        rw [Go.WideShapes.add_plain]
        rw [Lib.cell_of_heap (heap_alloc_new wr (.cells #[.int .i64 k', .bool b', .int .i64 n', .string t', .slice la' l'.length lc', .slice oa' o'.length oc'] 45)), Nat.zero_add]
        simpa using hj
      case c2 => exact hno.out
      case c3 => unfold maxLen; omega
      case c4 => omega
      case c5 => simp; omega
      intro v' w2 hown' hgrow _
      have ho' := Lib.hid hown'
      have hbA := Lib.hid ((hbw.out.alloc (by omega) (.cells #[.int .i64 k', .bool b', .int .i64 n', .string t', .slice la' l'.length lc', .slice oa' o'.length oc'] 45)).grown hgrow (by simp; omega) (fun q hq => by have := (hown.out.lt q hq).1; omega))
      have hbx2 : Hid (w2.heap[w.heap.size]? = some (.cells #[.int .i64 6, .bool b, .int .i64 n, .string t, .slice la l.length lc, .slice (some ⟨g, off, none⟩) o.length oc] 45 (0, 0))) := by
        show _ = _
        rw [hgrow.block _ (by simp; omega) (fun e => by have := (hown.out.lt _ e.symm).1; omega), Lib.alloc_old wr _ _ hz]
        exact hbx.out
      clear hown' hgrow hown hbw hbx b5 c1 c2 c3 c4 c5 c6 hno
      go_wp2
      go_roundw
      case rel => exact ⟨k + 1, _, by go_num, by omega, ho', Hrow, hbA, hbx2⟩
      case measure => simp only [intOf]; omega
    · obtain rfl : k = o.length := by omega
      have hr' := hrow.out
      rw [List.take_length] at hr'
      obtain ⟨la', lc', rfl, hsl⟩ := own_slice hown.out
      have Hsl := Lib.hid hsl
      have HR := Lib.hid hr'
      have Hlm : Hid (o.length = (o.map (·.2)).length) := by show _ = _; simp
      clear hr' hrow hsl hown hl
      go_wp2
      go_ret
      refine ⟨⟨la', lc', by rw [Hw.out, ← Hlm.out]; rfl, ?_⟩, hbw.out⟩
      rw [Hw.out]
      rcases Hsl.out with h | ⟨g', rfl, _, hg', hc'⟩
      · exact .inl (by rw [List.length_eq_zero_iff.1 h]; rfl)
      · exact .inr ⟨g', 0, rfl, hg', HR.out.holds (fun v cs h => HoldsV.more hbw.out.size _ _ (h.below hbw.out)) hc'⟩

end Go.Proofs.YtjjbbnodmpemiaaGreatDoor
