/- known(): the chapter's rows hold. No condition. -/
import Derived.Test.YtjmkafbdmppfaaaDoorProg
import Derived.Test.YtjmkafbdmppfaaaDoorText
namespace Go.Proofs.YtjmkafbdmppfaaaDoor
open Go.RowKit

/-- No letters. -/
abbrev nob : ByteArray := ⟨#[]⟩
/-- The values that known() speaks of. -/
def kn1 : Val := .mk 6 false 0 nob [] [(⟨#[97]⟩, .mk 5 false 0 nob [.mk 1 false 0 nob [] [], .mk 3 false (-5) nob [] []] []), (⟨#[98]⟩, .mk 4 false 0 ⟨#[120]⟩ [] [])]
def kn2 : Val := .mk 5 false 0 nob [] []
def kn3 : Val := .mk 4 false 0 ⟨#[120]⟩ [] []

theorem kn1_may : mayV kn1 1 = 0 := by decide +kernel
theorem kn2_may : mayV kn2 1 = 0 := by decide +kernel
theorem kn3_may : mayV kn3 1 = 0 := by decide +kernel
theorem kn1_text : textV kn1 = [123, 34, 97, 34, 58, 91, 110, 117, 108, 108, 44, 45, 53, 93, 44, 34, 98, 34, 58, 34, 120, 34, 125] := by decide +kernel
theorem kn2_text : (textV kn2).length = 2 := by decide +kernel
theorem kn3_text : (textV kn3).length = 3 := by decide +kernel

abbrev kc1 : Array Value := #[.int .i64 1, .bool false, .int .i64 0, .string nob, .slice none 0 0, .slice none 0 0, .int .i64 3, .bool false, .int .i64 (-5), .string nob, .slice none 0 0, .slice none 0 0]
abbrev kc2 (g : Nat) : Array Value := #[.string ⟨#[97]⟩, .int .i64 5, .bool false, .int .i64 0, .string nob, .slice (some ⟨g, 0, none⟩) 2 2, .slice none 0 0, .string ⟨#[98]⟩, .int .i64 4, .bool false, .int .i64 0, .string ⟨#[120]⟩, .slice none 0 0, .slice none 0 0]

theorem kn1_holds (W : World) (g1 g2 : Nat) (h1 : W.heap[g1]? = some (.cells kc1 26 (0, 0))) (h2 : W.heap[g2]? = some (.cells (kc2 g1) 44 (0, 0))) :
    HoldsV W W.heap.size kn1 [.int .i64 6, .bool false, .int .i64 0, .string nob, .slice none 0 0, .slice (some ⟨g2, 0, none⟩) 2 2] := by
  have l1 : g1 < W.heap.size := (Array.getElem?_eq_some_iff.1 h1).1
  have l2 : g2 < W.heap.size := (Array.getElem?_eq_some_iff.1 h2).1
  have c1 : ∀ i, W.cell? ⟨g1, i, none⟩ = kc1[i]? := fun i => Lib.cell_of_heap h1 i
  have c2 : ∀ i, W.cell? ⟨g2, i, none⟩ = (kc2 g1)[i]? := fun i => Lib.cell_of_heap h2 i
  simp only [kn1, HoldsV, HoldsL, HoldsO, HoldsP]
  refine ⟨none, 0, some ⟨g2, 0, none⟩, 2, rfl, .inl trivial, .inr ⟨g2, 0, rfl, l2, ⟨c2 0, _, ⟨some ⟨g1, 0, none⟩, 2, none, 0, rfl, .inr ⟨g1, 0, rfl, l1, ⟨_, ⟨none, 0, none, 0, rfl, .inl trivial, .inl trivial⟩, ?_⟩, ⟨_, ⟨none, 0, none, 0, rfl, .inl trivial, .inl trivial⟩, ?_⟩, trivial⟩, .inl trivial⟩, ?_⟩, ⟨c2 7, _, ⟨none, 0, none, 0, rfl, .inl trivial, .inl trivial⟩, ?_⟩, trivial⟩⟩
  · intro j u hu
    match j, hu with
    | 0, hu | 1, hu | 2, hu | 3, hu | 4, hu | 5, hu => rw [c1]; exact hu
    | j + 6, hu => simp at hu
  · intro j u hu
    match j, hu with
    | 0, hu | 1, hu | 2, hu | 3, hu | 4, hu | 5, hu => rw [c1]; exact hu
    | j + 6, hu => simp at hu
  · intro j u hu
    match j, hu with
    | 0, hu | 1, hu | 2, hu | 3, hu | 4, hu | 5, hu => rw [c2]; exact hu
    | j + 6, hu => simp at hu
  · intro j u hu
    match j, hu with
    | 0, hu | 1, hu | 2, hu | 3, hu | 4, hu | 5, hu => rw [c2]; exact hu
    | j + 6, hu => simp at hu

theorem plain_holds (W : World) (k : Int) (b : Bool) (n : Int) (t : ByteArray) (la oa : Option Addr) (lc oc : Nat) : HoldsV W W.heap.size (.mk k b n t [] []) [.int .i64 k, .bool b, .int .i64 n, .string t, .slice la 0 lc, .slice oa 0 oc] := by
  simp only [HoldsV]
  exact ⟨la, lc, oa, oc, rfl, .inl trivial, .inl trivial⟩

abbrev knW (w : World) : World := ((w.alloc (.cells kc1 26)).alloc (.cells (kc2 w.heap.size) 44)).alloc (.cells #[.int .i64 6, .bool false, .int .i64 0, .string nob, .slice none 0 0, .slice (some ⟨w.heap.size + 1, 0, none⟩) 2 2] 26)

theorem knW_below (w : World) : Below w.heap.size w (knW w) := ((((Below.refl _ _).alloc (Nat.le_refl _) _).alloc (by simp) _).alloc (by simp; omega) _)

theorem kn1_calls (w : World) (hT : Tabs w) : Calls Tryd.prog 11 #[.agg #[.int .i64 6, .bool false, .int .i64 0, .string nob, .slice none 0 0, .slice (some ⟨w.heap.size + 1, 0, none⟩) 2 2]] (knW w)
    fun e w' => e = .returned (.tuple #[.string ⟨#[123, 34, 97, 34, 58, 91, 110, 117, 108, 108, 44, 45, 53, 93, 44, 34, 98, 34, 58, 34, 120, 34, 125]⟩, .int .i64 0]) ∧ Below w.heap.size w w' := by
  have h1 : (knW w).heap[w.heap.size]? = some (.cells kc1 26 (0, 0)) := by
    have e1 : (w.alloc (.cells kc1 26)).heap[w.heap.size]? = some (.cells kc1 26 (0, 0)) := heap_alloc_new _ _
    have b1 : Below (w.alloc (.cells kc1 26)).heap.size (w.alloc (.cells kc1 26)) (knW w) := ((Below.refl _ _).alloc (Nat.le_refl _) _).alloc (by simp) _
    exact (b1.block _ (by simp)).trans e1
  have h2 : (knW w).heap[w.heap.size + 1]? = some (.cells (kc2 w.heap.size) 44 (0, 0)) := by
    obtain ⟨wA, hA⟩ : ∃ wA, w.alloc (.cells kc1 26) = wA := ⟨_, rfl⟩
    have hz : wA.heap.size = w.heap.size + 1 := by rw [← hA]; simp
    show ((((w.alloc (.cells kc1 26)).alloc (.cells (kc2 w.heap.size) 44)).alloc _).heap[w.heap.size + 1]?) = _
    rw [hA, ← hz]
    have e1 : (wA.alloc (.cells (kc2 w.heap.size) 44)).heap[wA.heap.size]? = some (.cells (kc2 w.heap.size) 44 (0, 0)) := heap_alloc_new _ _
    refine (Below.block ((Below.refl _ _).alloc (Nat.le_refl _) _) _ (by simp)).trans e1
  have hb := knW_below w
  have hT' := hT.below hb
  have hH := kn1_holds (knW w) _ _ h1 h2
  have := Text_calls kn1 _ (knW w) hT' hH (by decide +kernel) (by simp [kn1, inV, inL, inO, inP])
  unfold textS at this
  rw [kn1_may, if_pos rfl, kn1_text] at this
  refine this.mono ?_
  rintro e w' ⟨he, hb'⟩
  exact ⟨he, hb.trans (hb'.mono hb.size)⟩

theorem kn2_calls (w : World) (hT : Tabs w) : Calls Tryd.prog 12 #[.agg #[.int .i64 5, .bool false, .int .i64 0, .string nob, .slice none 0 0, .slice none 0 0]] w
    fun e w' => e = .returned (.tuple #[.int .i64 2, .int .i64 0]) ∧ Below w.heap.size w w' := by
  have := Bytes_calls kn2 _ w hT (plain_holds w 5 false 0 nob none none 0 0) (by decide +kernel) (by simp [kn2, inV, inL, inO])
  rw [kn2_may, if_pos rfl, kn2_text] at this
  exact this
theorem kn3_calls (w : World) (hT : Tabs w) : Calls Tryd.prog 12 #[.agg #[.int .i64 4, .bool false, .int .i64 0, .string ⟨#[120]⟩, .slice none 0 0, .slice none 0 0]] w
    fun e w' => e = .returned (.tuple #[.int .i64 3, .int .i64 0]) ∧ Below w.heap.size w w' := by
  have := Bytes_calls kn3 _ w hT (plain_holds w 4 false 0 ⟨#[120]⟩ none none 0 0) (by decide +kernel) (by simp [kn3, inV, inL, inO])
  rw [kn3_may, if_pos rfl, kn3_text] at this
  exact this

set_option maxRecDepth 100000 in
set_option maxHeartbeats 400000 in
theorem known_calls (w : World) (hT : Tabs w) :
    Calls Tryd.prog 14 #[] w fun e w' => e = .returned (.bool true) ∧ Below w.heap.size w w' := by
  have H1 := Lib.hid (kn1_calls w hT)
  have HT := Lib.hid hT
  clear hT
  go_enter Tryd.func14, Tryd.ntmps14
  go_wp2_with (fail)
  have X := H1.out
  unfold knW kc1 kc2 nob at X
  with_reducible refine X.mono ?_
  clear H1 X
  rintro e w1 ⟨rfl, hb1⟩
  have hT1 := Lib.hid (HT.out.below hb1)
  clear HT
  go_wp2_with (fail)
  have X2 := kn2_calls w1 hT1.out
  unfold nob at X2
  with_reducible refine X2.mono ?_
  clear X2
  rintro e w2 ⟨rfl, hb2⟩
  have hT2 := Lib.hid (hT1.out.below hb2)
  clear hT1
  go_wp2_with (fail)
  have X3 := kn3_calls w2 hT2.out
  unfold nob at X3
  with_reducible refine X3.mono ?_
  clear X3
  rintro e w3 ⟨rfl, hb3⟩
  clear hT2
  go_wp2
  go_ret
  exact ⟨rfl, hb1.trans ((hb2.trans (hb3.mono hb2.size)).mono hb1.size)⟩

end Go.Proofs.YtjmkafbdmppfaaaDoor
