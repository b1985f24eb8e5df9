/- Parts, joined: Arguments that are opened beside the trees: numbers, Booleans. No condition. Members in any order: their object's text, read, or the first key that comes twice. Plain. No condition. -/
import Derived.Test.YtgjiienipeoajaaGreatDoorProg
import Derived.Test.YtgjiienipeoajaaGreatDoorKPrs20
import Derived.Test.YtgjiienipeoajaaGreatDoorKPrs34
/- Arguments that are opened beside the trees: numbers, Booleans. No condition. -/
namespace Go.Proofs.YtgjiienipeoajaaGreatDoor
open Go.RowKit Go.ChangeShapes Go.WideShapes Go.ChangeAt

section
variable {H : Type} {enc : TypeId × Value → H} {w : World} {sp : Nat → Bool} {held : Bool}
set_option maxRecDepth 10000 in
theorem open_arg_u64 {base : Nat} {v0 : Value} {d : DataW H} {ps : List MemPlace} (hv : Value.okWide Tryz.prog w .any base 51 v0) (h : DataW.Trod enc Tryz.prog w 0 sp held 51 v0 d ps) :
    ∃ u : Nat, v0 = .int .u64 (u : Int) ∧ u < 18446744073709551616 := by
  obtain ⟨n, rfl, _, _, hwf⟩ := open_int Tryz.underlying51 hv h
  have h1 : IntKind.u64.min = 0 := by decide
  have h2 : IntKind.u64.max = 18446744073709551615 := by decide
  simp only [Lit.wf, h1, h2, Bool.and_eq_true, decide_eq_true_eq] at hwf
  exact ⟨n.toNat, by rw [Int.toNat_of_nonneg hwf.1], by omega⟩
set_option maxRecDepth 10000 in
theorem open_arg_int {base : Nat} {v0 : Value} {d : DataW H} {ps : List MemPlace} (hv : Value.okWide Tryz.prog w .any base 3 v0) (h : DataW.Trod enc Tryz.prog w 0 sp held 3 v0 d ps) :
    ∃ n : Int, v0 = .int .i64 n := by
  obtain ⟨n, rfl, _⟩ := open_int Tryz.underlying3 hv h
  exact ⟨n, rfl⟩
set_option maxRecDepth 10000 in
theorem open_arg_bool {base : Nat} {v0 : Value} {d : DataW H} {ps : List MemPlace} (hv : Value.okWide Tryz.prog w .any base 4 v0) (_ : DataW.Trod enc Tryz.prog w 0 sp held 4 v0 d ps) :
    ∃ b : Bool, v0 = .bool b := okWide_bool Tryz.underlying4 hv
set_option maxRecDepth 10000 in
/-- Members, with room enough behind them. -/
theorem open_arg_members2 {base : Nat} {v0 : Value} {d : DataW H} {ps : List MemPlace} (hv : Value.okWide Tryz.prog w .any base 24 v0) (h : DataW.Trod enc Tryz.prog w 0 sp held 24 v0 d ps) :
    ∃ l la lc, v0 = .slice la (l : List (ByteArray × Val)).length lc ∧ (l = [] ∨ ∃ g off, la = some ⟨g, off, none⟩ ∧ g < w.heap.size ∧ HoldsO w w.heap.size l g off) ∧ l.length ≤ lc ∧ inO l ∧ 1 + bulkO l ≤ Rows.uptoBulk d := by
  obtain ⟨l, la, lc, rfl, h1, h2, h3⟩ := open_arg_members hv h
  refine ⟨l, la, lc, rfl, h1, ?_, h2, h3⟩
  obtain ⟨fuel, hf⟩ := h
  rcases DataW.trod_slice Tryz.underlying24 hf with ⟨e, _⟩ | ⟨a, len, cap, elems, rest, q, hn, e, _, h5, h6, h7, hlen', hel, _, _⟩
  · simp only [Value.cells, List.cons.injEq, Value.slice.injEq, and_true] at e
    omega
  · simp only [Value.cells, List.cons.injEq, Value.slice.injEq, and_true] at e
    omega
end
end Go.Proofs.YtgjiienipeoajaaGreatDoor

/- Members in any order: their object's text, read, or the first key that comes twice. Plain. No condition. -/
namespace Go.Proofs.YtgjiienipeoajaaGreatDoor
open Go.RowKit

/-- A member that may be in an object at once below the top. -/
def okM (m : ByteArray × Val) : Prop := validB m.1 = true ∧ mayV m.2 2 = 0 ∧ inV m.2
theorem may_one (m : ByteArray × Val) : mayV (.mk 6 false 0 ⟨#[]⟩ [] [m]) 1 = 0 ↔ validB m.1 = true ∧ mayV m.2 2 = 0 := by
  obtain ⟨k, v⟩ := m
  have h1 : oddB 6 false 0 ⟨#[]⟩ 0 1 = false := by decide +kernel
  have h2 : validB ⟨#[]⟩ = true := by decide +kernel
  simp only [mayV, List.length_nil, List.length_cons, Nat.zero_add, h1, h2, mayL, mayO, mayP, if_true]
  by_cases hv : validB k = true
  · simp [hv]
    by_cases h0 : mayV v 2 = 0
    · simp [h0]
    · simp [h0]
  · simp [hv]
theorem okM.good {m : ByteArray × Val} (h : okM m) : (memOf m).good 2 := ⟨blanks_nil, blanks_nil, h.1, read_text m.2 2 h.2.1 h.2.2⟩
theorem joinC_cons (t : List UInt8) (r : List (List UInt8)) : joinC (t :: r) = if r = [] then t else t ++ 44 :: joinC r := by
  cases r <;> simp [joinC]
theorem joinC_snoc : ∀ (a : List (List UInt8)) (x : List UInt8), joinC (a ++ [x]) = if a = [] then x else joinC a ++ 44 :: x
  | [], x => rfl
  | [t], x => rfl
  | t :: u :: r, x => by
    have ih := joinC_snoc (u :: r) x
    simp only [List.cons_append, joinC_cons, reduceCtorEq, if_false] at ih ⊢
    rw [ih]
    simp
theorem joinC_app {a b : List (List UInt8)} (ha : a ≠ []) (hb : b ≠ []) : joinC (a ++ b) = joinC a ++ 44 :: joinC b := by
  induction a with
  | nil => exact absurd rfl ha
  | cons t r ih =>
    cases r with
    | nil => rw [List.cons_append, List.nil_append, joinC_cons, if_neg hb]; rfl
    | cons u r =>
      rw [List.cons_append, joinC_cons, if_neg (by simp), ih (by simp), joinC_cons t, if_neg (by simp)]
      simp
/-- The text so far; with a comma, where one stands. -/
def SL (l : List (ByteArray × Val)) (i : Nat) : List UInt8 := 123 :: joinC ((l.take i).map textP)
def SC (l : List (ByteArray × Val)) (i : Nat) : List UInt8 := if i = 0 then [123] else SL l i ++ [44]
theorem SL_zero (l : List (ByteArray × Val)) : SL l 0 = [123] := rfl
theorem SL_step {l : List (ByteArray × Val)} {i : Nat} {m : ByteArray × Val} (h : l[i]? = some m) : SL l (i + 1) = SC l i ++ textP m := by
  have hlt := (List.getElem?_eq_some_iff.1 h).1
  unfold SC SL
  rw [List.take_add_one, h, Option.toList_some, List.map_append, List.map_cons, List.map_nil, joinC_snoc]
  by_cases h0 : i = 0
  · subst h0; simp
  · rw [if_neg h0, if_neg (fun e => by
      have := congrArg List.length e
      rw [List.length_map, List.length_take, List.length_nil] at this
      omega)]
    simp
/-- What is known of a key that comes twice. -/
def TW (l : List (ByteArray × Val)) (i : Nat) (t : Int) : Prop := (t = -1 ∧ ((l.take i).map (·.1)).Nodup) ∨ ∃ k m, k < i ∧ l[k]? = some m ∧ ((l.take k).map (·.1)).Nodup ∧ hasK m.1 (l.take k) = true ∧ t = ((SC l k).length : Nat)
theorem TW.zero (l : List (ByteArray × Val)) : TW l 0 (-1) := .inl ⟨rfl, List.nodup_nil⟩
theorem TW.hit {l : List (ByteArray × Val)} {i : Nat} {m : ByteArray × Val} (h : TW l i (-1)) (hm : l[i]? = some m) (hk : hasK m.1 (l.take i) = true) : TW l (i + 1) ((SC l i).length : Nat) := by
  rcases h with ⟨_, hn⟩ | ⟨k, m', _, _, _, _, e⟩
  · exact .inr ⟨i, m, by omega, hm, hn, hk, rfl⟩
  · omega
theorem TW.miss {l : List (ByteArray × Val)} {i : Nat} {m : ByteArray × Val} (h : TW l i (-1)) (hm : l[i]? = some m) (hk : hasK m.1 (l.take i) = false) : TW l (i + 1) (-1) := by
  rcases h with ⟨_, hn⟩ | ⟨k, m', _, _, _, _, e⟩
  · refine .inl ⟨rfl, ?_⟩
    rw [List.take_add_one, hm, Option.toList_some]
    obtain ⟨k, v⟩ := m
    exact nodup_snoc hn hk
  · omega
theorem TW.stay {l : List (ByteArray × Val)} {i : Nat} {t : Int} (h : TW l i t) (ht : 0 ≤ t) : TW l (i + 1) t := by
  rcases h with ⟨e, _⟩ | ⟨k, m', h1, h2, h3, h4, h5⟩
  · omega
  · exact .inr ⟨k, m', by omega, h2, h3, h4, h5⟩
theorem TW.neg {l : List (ByteArray × Val)} {i : Nat} {t : Int} (h : TW l i t) (ht : t < 0) : t = -1 := by
  rcases h with ⟨e, _⟩ | ⟨k, m', h1, h2, h3, h4, h5⟩ <;> omega
theorem hasK_take {l : List (ByteArray × Val)} {j : Nat} {m : ByteArray × Val} (h : l[j]? = some m) (k : ByteArray) : hasK k (l.take (j + 1)) = (hasK k (l.take j) || decide (m.1 = k)) := by
  unfold hasK
  rw [List.take_add_one, h, Option.toList_some, List.any_append]
  simp
theorem hasK_mono {l : List (ByteArray × Val)} {j i : Nat} (h : j ≤ i) {k : ByteArray} (hk : hasK k (l.take j) = true) : hasK k (l.take i) = true := by
  unfold hasK at hk ⊢
  rw [List.any_eq_true] at hk ⊢
  obtain ⟨x, hx, e⟩ := hk
  refine ⟨x, ?_, e⟩
  have : l.take j = (l.take i).take j := by rw [List.take_take, Nat.min_eq_left h]
  rw [this] at hx
  exact List.mem_of_mem_take hx
theorem order_ok {l : List (ByteArray × Val)} (hl : ∀ m ∈ l, okM m) (hn : (l.map (·.1)).Nodup) : parseL (SL l l.length ++ [125]) = .ok (objV (sortO l)) ((SL l l.length).length + 1) := by
  have hr := read_obj (d := 1) (by omega) (l := l.map memOf) (by
    intro m hm
    obtain ⟨x, hx, rfl⟩ := List.mem_map.1 hm
    exact (hl x hx).good) (by rw [memOf_pair]; exact hn) (g := []) blanks_nil (fun _ => rfl)
  rw [memOf_pair, memOf_texts, List.nil_append] at hr
  have hp := parse_reads hr
  unfold SL
  rw [List.take_length]
  rw [show 123 :: joinC (l.map textP) ++ [125] = 123 :: (joinC (l.map textP) ++ [125]) from rfl, hp]
  simp
theorem order_twice {l : List (ByteArray × Val)} (hl : ∀ m ∈ l, okM m) {k : Nat} {m : ByteArray × Val} (hm : l[k]? = some m) (hn : ((l.take k).map (·.1)).Nodup) (hk : hasK m.1 (l.take k) = true) : parseL (SL l l.length ++ [125]) = .bad 8 (SC l k).length := by
  have hlt := (List.getElem?_eq_some_iff.1 hm).1
  have hmem : m ∈ l := List.mem_of_getElem? hm
  obtain ⟨s, hs⟩ : ∃ s, SL l l.length ++ [125] = s := ⟨_, rfl⟩
  obtain ⟨x, hx, hxs⟩ : ∃ x, s.drop 1 = joinC (((l.take k).map memOf ++ [memOf m]).map Mem.text) ++ x ∧ StopD x := by
    have e1 : ((l.take k).map memOf ++ [memOf m]).map Mem.text = (l.take (k + 1)).map textP := by
      rw [List.map_append, memOf_texts, List.take_add_one, hm, Option.toList_some, List.map_append]
      simp [memOf_text]
    rw [e1, ← hs]
    unfold SL
    rw [List.take_length]
    by_cases hr : l.drop (k + 1) = []
    · refine ⟨[125], ?_, StopD.of (by decide)⟩
      have : l.take (k + 1) = l := List.take_of_length_le (by simpa using hr)
      rw [this]
      rfl
    · refine ⟨44 :: (joinC ((l.drop (k + 1)).map textP) ++ [125]), ?_, StopD.of (by decide)⟩
      have e2 : joinC (l.map textP) = joinC ((l.take (k + 1)).map textP) ++ 44 :: joinC ((l.drop (k + 1)).map textP) := by
        rw [← joinC_app (by simp; intro e; rw [e] at hlt; simp at hlt) (by simpa using hr), ← List.map_append, List.take_append_drop]
      rw [e2]
      simp
  have hlen : s.length = (SL l l.length).length + 1 := by rw [← hs]; simp
  have h0 : s[0]? = some 123 := by rw [← hs]; rfl
  have hfirst : ¬(s[past s (0 + 1)]? = some 125) := by
    have : s[past s (0 + 1)]? = some 34 := by
      cases htk : (l.take k).map memOf with
      | nil =>
        rw [htk] at hx
        exact mem_first (d := 2) (hl m hmem).good (x := x) (by simpa [joinC] using hx)
      | cons a r =>
        rw [htk] at hx
        have ha : a.good 2 := by
          have : a ∈ (l.take k).map memOf := by rw [htk]; exact List.mem_cons_self
          obtain ⟨y, hy, rfl⟩ := List.mem_map.1 this
          exact (hl y (List.mem_of_mem_take hy)).good
        obtain ⟨z, hz⟩ := joinC_ne (y := a.text) (r := (r ++ [memOf m]).map Mem.text)
        refine mem_first (d := 2) ha (x := z ++ x) ?_
        rw [hx, List.cons_append, List.map_cons, hz, List.append_assoc]
    rw [this]; decide
  have hp1 : 1 ≤ s.length := by omega
  have ht := members_twice (d := 1) ((l.take k).map memOf) (memOf m) (by
    intro y hy
    obtain ⟨z, hz, rfl⟩ := List.mem_map.1 hy
    exact (hl z (List.mem_of_mem_take hz)).good) (hl m hmem).good (4 * s.length + 2) s x 1 [] (by rw [List.nil_append, memOf_pair]; exact hn) (by rw [List.nil_append, memOf_pair]; exact hk) hxs hp1 hx (by omega)
  have e1 : ((l.take k).map memOf ++ [memOf m]).map Mem.text = (l.take (k + 1)).map textP := by
    rw [List.map_append, memOf_texts, List.take_add_one, hm, Option.toList_some, List.map_append]
    simp [memOf_text]
  have e3 : 1 + (joinC ((l.take (k + 1)).map textP)).length = (SC l k).length + (textP m).length := by
    have := congrArg List.length (SL_step hm)
    unfold SL at this
    simp only [List.length_cons, List.length_append] at this
    omega
  rw [e1, memOf_text] at ht
  rw [hs]
  unfold parseL
  have hv : valueF (4 * s.length + 4) s 0 1 = .bad 8 (SC l k).length := by
    rw [obj_step (f := 4 * s.length + 2) (by omega) h0 hfirst, ht]
    congr 1
    show 1 + (joinC ((l.take (k + 1)).map textP)).length - (textP m).length + ([] : List UInt8).length = _
    simp only [List.length_nil]
    omega
  rw [hv]
end Go.Proofs.YtgjiienipeoajaaGreatDoor
