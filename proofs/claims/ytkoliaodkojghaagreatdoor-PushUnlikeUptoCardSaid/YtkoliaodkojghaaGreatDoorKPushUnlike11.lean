/- Parts, joined: commonplacelaw17.known: the chapter's row is so. No condition. Two pushes that may be have the same frame just if they are the same. Plain. No condition. The law PushUnlike returns true. Condition: bulks of at most 2 * 10^6. -/
import Derived.Test.YtkoliaodkojghaaGreatDoorProg
import Derived.Lib.SlBytesConst
import Derived.Test.YtkoliaodkojghaaGreatDoorKPushUnlike9
import Derived.Test.YtkoliaodkojghaaGreatDoorKPushUnlike10
/- commonplacelaw17.known: the chapter's row is so. No condition. -/
namespace Go.Proofs.YtkoliaodkojghaaGreatDoor
open Go Go.RowKit

def knownNums : List Num := [⟨1, .mk 2 ⟨#[97]⟩ ⟨#[]⟩ 0 false zeroV false zeroV []⟩]
abbrev knownB : List UInt8 := [123, 34, 99, 108, 105, 101, 110, 116, 34, 58, 55, 44, 34, 108, 105, 115, 116, 34, 58, 91, 123, 34, 105, 100, 34, 58, 49, 44, 34, 109, 117, 116, 97, 116, 111, 114, 34, 58, 123, 34, 97, 114, 103, 115, 34, 58, 123, 34, 107, 101, 121, 34, 58, 34, 97, 34, 125, 44, 34, 110, 97, 109, 101, 34, 58, 34, 100, 101, 108, 34, 125, 125, 93, 125]
theorem known_push : textV (ov (pushO 7 knownNums)) = knownB := by kernel_rfl
theorem known_mayP : mayPush 7 knownNums = 0 := by decide +kernel
abbrev knownC : Array Value := #[.int .u64 1, .int .i64 2, .string ⟨#[97]⟩, .string ⟨#[]⟩, .int .i64 0, .bool false, .int .i64 0, .bool false, .int .i64 0, .string ⟨#[]⟩, .slice none 0 0, .slice none 0 0, .bool false, .int .i64 0, .bool false, .int .i64 0, .string ⟨#[]⟩, .slice none 0 0, .slice none 0 0, .slice none 0 0]
theorem known_holdsP (w : World) : Holds (w.alloc (.cells knownC 50)) (w.alloc (.cells knownC 50)).heap.size (.row 20 (dNs knownNums)) [.slice (some ⟨w.heap.size, 0, none⟩) 1 1] := by
  have hz := fun (W : World) => holds_of_V _ _ (holds_zero W W.heap.size)
  exact holds_blk (Blk.new _ _ _) (dNs_cells _) (HoldsA.one ⟨[.int .u64 1], _, rfl, ⟨rfl, rfl⟩, _, [], (List.append_nil _).symm, ⟨[.int .i64 2], _, rfl, ⟨rfl, rfl⟩, [.string ⟨#[97]⟩], _, rfl, ⟨rfl, rfl⟩, [.string ⟨#[]⟩], _, rfl, ⟨rfl, rfl⟩, [.int .i64 0], _, rfl, ⟨rfl, rfl⟩, [.bool false], _, rfl, ⟨rfl, rfl⟩, _, _, rfl, hz _, [.bool false], _, rfl, ⟨rfl, rfl⟩, _, _, rfl, hz _, [.slice none 0 0], [], rfl, ⟨none, 0, rfl, (fun d hd => by cases hd), [], rfl, .inl rfl⟩, rfl⟩, rfl⟩) rfl

set_option maxRecDepth 100000 in
theorem knownA_eq : (#[.int .u8 123, .int .u8 34, .int .u8 99, .int .u8 108, .int .u8 105, .int .u8 101, .int .u8 110, .int .u8 116, .int .u8 34, .int .u8 58, .int .u8 55, .int .u8 44, .int .u8 34, .int .u8 108, .int .u8 105, .int .u8 115, .int .u8 116, .int .u8 34, .int .u8 58, .int .u8 91, .int .u8 123, .int .u8 34, .int .u8 105, .int .u8 100, .int .u8 34, .int .u8 58, .int .u8 49, .int .u8 44, .int .u8 34, .int .u8 109, .int .u8 117, .int .u8 116, .int .u8 97, .int .u8 116, .int .u8 111, .int .u8 114, .int .u8 34, .int .u8 58, .int .u8 123, .int .u8 34, .int .u8 97, .int .u8 114, .int .u8 103, .int .u8 115, .int .u8 34, .int .u8 58, .int .u8 123, .int .u8 34, .int .u8 107, .int .u8 101, .int .u8 121, .int .u8 34, .int .u8 58, .int .u8 34, .int .u8 97, .int .u8 34, .int .u8 125, .int .u8 44, .int .u8 34, .int .u8 110, .int .u8 97, .int .u8 109, .int .u8 101, .int .u8 34, .int .u8 58, .int .u8 34, .int .u8 100, .int .u8 101, .int .u8 108, .int .u8 34, .int .u8 125, .int .u8 125, .int .u8 93, .int .u8 125] : Array Value) = (bcells knownB).toArray := by kernel_rfl
theorem known_bytes (w : World) : Holds (w.alloc (.cells (bcells knownB).toArray 5 (74, 75))) (w.alloc (.cells (bcells knownB).toArray 5 (74, 75))).heap.size (.row 1 (dB knownB)) [.slice (some ⟨w.heap.size, 0, none⟩) 74 74] := by
  have hn := heap_alloc_new w (.cells (bcells knownB).toArray 5 (74, 75))
  have hl : 74 = knownB.length := by rfl
  generalize knownB = B at hn hl ⊢
  refine (dB_fresh (b := 0) (l := B) (n := 74) (cap := 74) (g := w.heap.size) hl (Nat.zero_le _) (by simp) fun j x hx => ?_).now
  refine (cell_of_row _ _ _ _ _ _ hn).trans ?_
  rw [← Array.getElem?_toList]
  show (bcells B)[j]? = _
  unfold bcells
  rw [List.getElem?_map, hx]
  rfl

set_option maxRecDepth 100000 in
set_option maxHeartbeats 2000000 in
theorem known17_calls (w : World) (hT : Tabs w) (hN : MNames w) : Calls Tryz.prog 8 #[] w fun e w' => e = .returned (.bool true) ∧ Below w.heap.size w w' := by
  have hQ := fun (W : World) (hB : Below w.heap.size w W) => pencode_calls 7 knownNums _ 1 1 (W.alloc (.cells knownC 50)) (by omega) (hT.below (hB.alloc hB.size _)) (hN.below (hB.alloc hB.size _)) (known_holdsP W) (by decide) (by intro p hp; simp [knownNums] at hp; subst hp; exact ⟨by decide, by simp [inM, inMs, inV, inL, inO]⟩) known_mayP
  have hG : ∀ (W : World) (a : Option Addr) (n c : Nat), Holds W W.heap.size (.row 1 (dB knownB)) [.slice a n c] → Calls Tryz.prog 10 #[.int .u8 1, .slice a n c] W (BytesPost0 (sealL (1 :: knownB)) W) := fun W a n c h => rframe_calls 1 (by decide) knownB a n c W h (by decide)
  rw [known_push] at hQ
  obtain ⟨L, hL⟩ : ∃ L, sealL (1 :: knownB) = L := ⟨_, rfl⟩
  rw [hL] at hQ hG
  have hl : L.length ≤ 2000000000 := by rw [← hL]; unfold sealL; simp [sumBytes]
  have hS := fun (W : World) a n c a' n' c' h h' => same_calls L L a a' n c n' c' true W h h' hl hl (by simp)
  have hK := fun (W : World) => known_bytes W
  have hcv := fun (w : World) (cs : Array Value) => Lib.run_convert_bytes_const w 31 5 cs 74 74 Tryz.underlying31 Tryz.underlying5
  have HQ := Lib.hid hQ
  have HG := Lib.hid hG
  have HL := Lib.hid hL
  have HS := Lib.hid hS
  have HK := Lib.hid hK
  clear hQ hG hL hS hK
  clear hl
  go_enter Tryz.func8, Tryz.ntmps8
  go_wp2_with (fail)
  refine (HQ.out w (Below.refl _ _)).mono ?_
  rintro e w1 ⟨a1, c1, rfl, hf1, hb1⟩
  go_wp2_with (fail)
  have hb2 := hb1.alloc hb1.size (.cells (bcells knownB).toArray 5 (74, 75))
  have hf2 := hf1.later (alloc_below w1 (.cells (bcells knownB).toArray 5 (74, 75)))
  refine (HG.out _ _ _ _ (HK.out w1)).mono ?_
  rintro e w3 ⟨a3, c3, rfl, hf3, hb3⟩
  have hb3' := hb2.trans (hb3.mono hb2.size)
  have hf23 := hf2.later hb3
  have Hb1 := Lib.hid hb1
  have Hb2 := Lib.hid hb2
  have Hf2 := Lib.hid hf2
  have Hf1 := Lib.hid hf1
  have Hb3 := Lib.hid hb3
  have Hb3' := Lib.hid hb3'
  have Hf23 := Lib.hid hf23
  have Hf3 := Lib.hid hf3
  clear hb1 hb2 hf2 hf1 hb3 hb3' hf23 hf3
  go_wp2_with (fail)
  refine (HS.out _ _ _ _ _ _ _ Hf23.out.now Hf3.out.now).mono ?_
  rintro e w4 ⟨rfl, hb4⟩
  go_wp2
  go_ret
  have hz := alloc_below w (.cells knownC 50)
  have hb4' := Hb3'.out.trans (hb4.mono Hb3'.out.size)
  exact ⟨rfl, hz.trans (hb4'.mono hz.size)⟩
end Go.Proofs.YtkoliaodkojghaaGreatDoor

/- Two pushes that may be have the same frame just if they are the same. Plain. No condition. -/
namespace Go.Proofs.YtkoliaodkojghaaGreatDoor
open Go.RowKit

theorem sealL_inj {a b : List UInt8} (h : sealL a = sealL b) : a = b := by
  have hl := congrArg List.length h
  have h4 : ∀ s, (sumBytes s).length = 4 := fun _ => rfl
  unfold sealL at h hl
  rw [List.length_append, List.length_append, h4, h4] at hl
  exact (List.append_inj h (by omega)).1
theorem name_inj {k k' : Int} (h1 : 1 ≤ k ∧ k ≤ 7) (h2 : 1 ≤ k' ∧ k' ≤ 7) (h : nameM k = nameM k') : k = k' := by
  have e1 : k = 1 ∨ k = 2 ∨ k = 3 ∨ k = 4 ∨ k = 5 ∨ k = 6 ∨ k = 7 := by omega
  have e2 : k' = 1 ∨ k' = 2 ∨ k' = 3 ∨ k' = 4 ∨ k' = 5 ∨ k' = 6 ∨ k' = 7 := by omega
  rcases e1 with rfl | rfl | rfl | rfl | rfl | rfl | rfl <;> rcases e2 with rfl | rfl | rfl | rfl | rfl | rfl | rfl <;> first | rfl | exact absurd h (by decide)
theorem empty_of {s : ByteArray} (h : s.toList.isEmpty = true) : s = ⟨#[]⟩ := by
  rw [List.isEmpty_iff, Lib.toList_data] at h
  exact ByteArray.ext (Array.ext' h)
/-- What a mutator has beside what its kind names. -/
theorem bare_parts {k : Int} {dst : ByteArray} {n : Int} {had has : Bool} {was v : Val} {l : List Mut} (h : bareF k dst n had (zeroB was) has (zeroB v) l.length = true) :
    (k ≠ 6 → dst = ⟨#[]⟩) ∧ (k ≠ 3 → n = 0) ∧ (k ≠ 4 → k ≠ 7 → had = false) ∧ (k ≠ 4 → has = false) ∧ (had = false → was = zeroV) ∧ (k ≠ 1 → k ≠ 5 → has = false → v = zeroV) ∧ (k ≠ 7 → l = []) := by
  unfold bareF at h
  simp only [Bool.and_eq_true, Bool.or_eq_true, decide_eq_true_eq, Bool.not_eq_true'] at h
  obtain ⟨⟨⟨⟨⟨⟨⟨⟨_, _⟩, h1⟩, h2⟩, h3⟩, h4⟩, h5⟩, h6⟩, h7⟩ := h
  refine ⟨fun e => ?_, fun e => ?_, fun e e' => ?_, fun e => ?_, fun e => ?_, fun e e' e2 => ?_, fun e => ?_⟩
  · rcases h1 with h | h
    · exact absurd h e
    · exact empty_of h
  · rcases h2 with h | h
    · exact absurd h e
    · exact h
  · rcases h3 with (h | h) | h
    · exact absurd h e
    · exact absurd h e'
    · exact h
  · rcases h4 with h | h
    · exact absurd h e
    · exact h
  · rcases h5 with h | h
    · rw [e] at h; cases h
    · exact (zeroB_iff was).1 h
  · rcases h6 with ((h | h) | h) | h
    · exact absurd h e
    · exact absurd h e'
    · rw [e2] at h; cases h.2
    · exact (zeroB_iff v).1 h
  · rcases h7 with h | h
    · exact absurd h e
    · exact List.eq_nil_of_length_eq_zero h
theorem tv_inj {a b : ByteArray} (h : tv a = tv b) : a = b := by unfold tv at h; injection h
theorem iv_inj {a b : Int} (h : iv a = iv b) : a = b := by unfold iv at h; injection h
theorem ov_inj {a b : List (ByteArray × Val)} (h : ov a = ov b) : a = b := by unfold ov at h; injection h
theorem lv_inj {a b : List Val} (h : lv a = lv b) : a = b := by unfold lv at h; injection h
/-- A guard says whether there is a value, and which. -/
theorem guard_inj {key key' : ByteArray} {had had' : Bool} {was was' : Val} (hw : had = false → was = zeroV) (hw' : had' = false → was' = zeroV) (h : guardO key had was = guardO key' had' was') : key = key' ∧ had = had' ∧ was = was' := by
  unfold guardO at h
  simp only [List.cons.injEq, Prod.mk.injEq, true_and] at h
  obtain ⟨h1, h2⟩ := h
  refine ⟨tv_inj h1, ?_⟩
  cases had <;> cases had' <;> simp at h2 ⊢
  · rw [hw rfl, hw' rfl]
  · exact h2
theorem mutVs_inj {l l' : List Mut} (ih : ∀ m ∈ l, ∀ m' d d', mayM m d = 0 → mayM m' d' = 0 → mutV m = mutV m' → m = m') {d d' : Int} (h : mayMs l d = 0) (h' : mayMs l' d' = 0) (e : mutVs l = mutVs l') : l = l' := by
  induction l generalizing l' with
  | nil =>
    cases l' with
    | nil => rfl
    | cons y r => simp [mutVs] at e
  | cons x r ihr =>
    cases l' with
    | nil => simp [mutVs] at e
    | cons y r' =>
      simp only [mutVs, List.cons.injEq] at e
      have hx := mayMs_mem h x (by simp)
      have hy := mayMs_mem h' y (by simp)
      simp only [mayMs, hx, hy, if_true] at h h'
      rw [ih x (by simp) y d d' hx hy e.1, ihr (fun m hm => ih m (by simp [hm])) h h' e.2]
theorem mutV_inj : ∀ (m m' : Mut) (d d' : Int), mayM m d = 0 → mayM m' d' = 0 → mutV m = mutV m' → m = m' := by
  refine Mut.ind ?_
  intro k key dst n had was has v l IH m' d d' h h' e
  obtain ⟨k', key', dst', n', had', was', has', v', l'⟩ := m'
  obtain ⟨h1, _, h3, _, _, h6⟩ := mayM_parts h
  obtain ⟨h1', _, h3', _, _, h6'⟩ := mayM_parts h'
  have hk := bare_kind h1
  have hk' := bare_kind h1'
  obtain ⟨p1, p2, p3, p4, p5, p6, p7⟩ := bare_parts h1
  obtain ⟨q1, q2, q3, q4, q5, q6, q7⟩ := bare_parts h1'
  simp only [mutV] at e
  have e0 := ov_inj e
  simp only [List.cons.injEq, Prod.mk.injEq, true_and, and_true] at e0
  obtain ⟨ea, en⟩ := e0
  obtain rfl := name_inj hk hk' (tv_inj en)
  have eX := ov_inj ea
  clear e ea en h h' h1 h1' hk'
  have hkk : k = 1 ∨ k = 2 ∨ k = 3 ∨ k = 4 ∨ k = 5 ∨ k = 6 ∨ k = 7 := by omega
  rcases hkk with rfl | rfl | rfl | rfl | rfl | rfl | rfl
  · have a1 := p3 (by omega) (by omega)
    have a2 := q3 (by omega) (by omega)
    simp at eX
    rw [p1 (by omega), q1 (by omega), p2 (by omega), q2 (by omega), a1, a2, p4 (by omega), q4 (by omega), p5 a1, q5 a2, p7 (by omega), q7 (by omega), tv_inj eX.1, eX.2]
  · have a1 := p3 (by omega) (by omega)
    have a2 := q3 (by omega) (by omega)
    have b1 := p4 (by omega)
    have b2 := q4 (by omega)
    simp at eX
    rw [p1 (by omega), q1 (by omega), p2 (by omega), q2 (by omega), a1, a2, b1, b2, p5 a1, q5 a2, p6 (by omega) (by omega) b1, q6 (by omega) (by omega) b2, p7 (by omega), q7 (by omega), tv_inj eX]
  · have a1 := p3 (by omega) (by omega)
    have a2 := q3 (by omega) (by omega)
    have b1 := p4 (by omega)
    have b2 := q4 (by omega)
    simp at eX
    rw [p1 (by omega), q1 (by omega), a1, a2, b1, b2, p5 a1, q5 a2, p6 (by omega) (by omega) b1, q6 (by omega) (by omega) b2, p7 (by omega), q7 (by omega), iv_inj eX.1, tv_inj eX.2]
  · cases has <;> cases has'
    · simp at eX
      obtain ⟨g1, g2, g3⟩ := guard_inj p5 q5 eX
      rw [p1 (by omega), q1 (by omega), p2 (by omega), q2 (by omega), p6 (by omega) (by omega) rfl, q6 (by omega) (by omega) rfl, p7 (by omega), q7 (by omega), g1, g2, g3]
    · exfalso; cases had <;> cases had' <;> simp [guardO] at eX
    · exfalso; cases had <;> cases had' <;> simp [guardO] at eX
    · simp at eX
      obtain ⟨e1, e2⟩ := eX
      obtain ⟨g1, g2, g3⟩ := guard_inj p5 q5 e2
      rw [p1 (by omega), q1 (by omega), p2 (by omega), q2 (by omega), p7 (by omega), q7 (by omega), g1, g2, g3, e1]
  · have a1 := p3 (by omega) (by omega)
    have a2 := q3 (by omega) (by omega)
    simp at eX
    rw [p1 (by omega), q1 (by omega), p2 (by omega), q2 (by omega), a1, a2, p4 (by omega), q4 (by omega), p5 a1, q5 a2, p7 (by omega), q7 (by omega), tv_inj eX.1, eX.2]
  · have a1 := p3 (by omega) (by omega)
    have a2 := q3 (by omega) (by omega)
    have b1 := p4 (by omega)
    have b2 := q4 (by omega)
    simp at eX
    rw [p2 (by omega), q2 (by omega), a1, a2, b1, b2, p5 a1, q5 a2, p6 (by omega) (by omega) b1, q6 (by omega) (by omega) b2, p7 (by omega), q7 (by omega), tv_inj eX.1, tv_inj eX.2]
  · have b1 := p4 (by omega)
    have b2 := q4 (by omega)
    have z1 : ¬((7 : Int) = 1 ∨ (7 : Int) = 5) := by omega
    have z2 : ¬(7 : Int) = 2 := by omega
    have z3 : ¬(7 : Int) = 3 := by omega
    have z4 : ¬(7 : Int) = 4 := by omega
    have z6 : ¬(7 : Int) = 6 := by omega
    rw [if_neg z1, if_neg z2, if_neg z3, if_neg z4, if_neg z6, if_neg z1, if_neg z2, if_neg z3, if_neg z4, if_neg z6] at eX
    simp only [List.cons.injEq, Prod.mk.injEq, true_and] at eX
    obtain ⟨eD, eI⟩ := eX
    have el := mutVs_inj IH h6 h6' (lv_inj eD)
    have hg : key = key' ∧ had = had' ∧ was = was' := by
      by_cases c1 : key.toList.isEmpty = true <;> by_cases c2 : key'.toList.isEmpty = true
      · have d1 : had = false := by unfold keyedB at h3; rw [if_neg (by omega), if_pos ⟨rfl, c1⟩] at h3; simpa using h3
        have d2 : had' = false := by unfold keyedB at h3'; rw [if_neg (by omega), if_pos ⟨rfl, c2⟩] at h3'; simpa using h3'
        exact ⟨(empty_of c1).trans (empty_of c2).symm, d1.trans d2.symm, (p5 d1).trans (q5 d2).symm⟩
      · rw [if_pos c1, if_neg c2] at eI; cases eI
      · rw [if_neg c1, if_pos c2] at eI; cases eI
      · rw [if_neg c1, if_neg c2] at eI
        simp only [List.cons.injEq, Prod.mk.injEq, true_and, and_true] at eI
        exact guard_inj p5 q5 (ov_inj eI)
    obtain ⟨g1, g2, g3⟩ := hg
    rw [p1 (by omega), q1 (by omega), p2 (by omega), q2 (by omega), b1, b2, p6 (by omega) (by omega) b1, q6 (by omega) (by omega) b2, g1, g2, g3, el]
theorem nums_inj : ∀ {l l' : List Num}, mayNs l = 0 → mayNs l' = 0 → l.map numV = l'.map numV → l = l'
  | [], [], _, _, _ => rfl
  | [], _ :: _, _, _, e => by simp at e
  | _ :: _, [], _, _, e => by simp at e
  | ⟨i, m⟩ :: r, ⟨i', m'⟩ :: r', h, h', e => by
    have hx := mayNs_all h ⟨i, m⟩ (by simp)
    have hy := mayNs_all h' ⟨i', m'⟩ (by simp)
    have hr : mayNs r = 0 := by simp only [mayNs, hx.2, if_true] at h; rw [if_neg (by have := hx.1; omega)] at h; exact h
    have hr' : mayNs r' = 0 := by simp only [mayNs, hy.2, if_true] at h'; rw [if_neg (by have := hy.1; omega)] at h'; exact h'
    simp only [List.map_cons, List.cons.injEq, numV] at e
    have e1 := ov_inj e.1
    simp only [List.cons.injEq, Prod.mk.injEq, true_and, and_true] at e1
    rw [iv_inj e1.1, mutV_inj m m' 1 1 (mutMay_zero hx.2) (mutMay_zero hy.2) e1.2, nums_inj hr hr' e.2]
/-- Two pushes that may be have the same frame just if they are the same. -/
theorem push_frames {c c' : Int} {l l' : List Num} (h : mayNs l = 0) (h' : mayNs l' = 0) : sealL (1 :: textV (ov (pushO c l))) = sealL (1 :: textV (ov (pushO c' l'))) ↔ c = c' ∧ l = l' := by
  constructor
  · intro e
    have e1 := sealL_inj e
    simp only [List.cons.injEq, true_and] at e1
    have e2 := ov_inj (text_inj (may_push (c := c) h) (may_push (c := c') h') e1)
    simp only [pushO, List.cons.injEq, Prod.mk.injEq, true_and, and_true] at e2
    exact ⟨iv_inj e2.1, nums_inj h h' (lv_inj e2.2)⟩
  · rintro ⟨rfl, rfl⟩
    rfl
end Go.Proofs.YtkoliaodkojghaaGreatDoor

/- The law PushUnlike returns true. Condition: bulks of at most 2 * 10^6. -/
namespace Go.Proofs.YtkoliaodkojghaaGreatDoor
open Go Go.RowKit

theorem mayPush_parts {c : Int} {l : List Num} (h : mayPush c l = 0) : mayNs l = 0 := by
  unfold mayPush at h
  split at h
  · cases h
  · split at h
    · cases h
    · exact h
theorem seal_len (l : List UInt8) : (sealL l).length = l.length + 4 := by unfold sealL; simp [sumBytes]

set_option maxRecDepth 100000 in
set_option maxHeartbeats 8000000 in
theorem PushUnlike_law (c : Int) (l : List Num) (c' : Int) (l' : List Num) (hc : 0 ≤ c) (hc' : 0 ≤ c') (a : Option Addr) (n cc : Nat) (a' : Option Addr) (n' cc' : Nat) (w : World) (hT : Tabs w) (hN : MNames w) (h : Holds w w.heap.size (.row 20 (dNs l)) [.slice a n cc]) (h' : Holds w w.heap.size (.row 20 (dNs l')) [.slice a' n' cc']) (hb : bulkN l ≤ 2000000) (hb' : bulkN l' ≤ 2000000) (hin : inN l) (hin' : inN l') :
    Calls Tryz.prog 5 #[.agg #[.int .u64 c, .slice a n cc], .agg #[.int .u64 c', .slice a' n' cc']] w fun e w' => e = .returned (.bool true) ∧ Below w.heap.size w w' := by
  have h1 := fun (W : World) hB => rpushMay_calls c l a n cc W hc (hT.below (w' := W) hB) ((h.below hB).more hB.size) (by omega) hin
  have h2 := fun (W : World) hB => rpushMay_calls c' l' a' n' cc' W hc' (hT.below (w' := W) hB) ((h'.below hB).more hB.size) (by omega) hin'
  have h3 := fun (W : World) hB => known17_calls W (hT.below (w' := W) hB) (hN.below hB)
  have hbw := two_boxes w (.cells #[.int .u64 c, .slice a n cc] 25) (.cells #[.int .u64 c', .slice a' n' cc'] 25)
  obtain ⟨wi, hwi⟩ : ∃ wi, (w.alloc (.cells #[.int .u64 c, .slice a n cc] 25)).alloc (.cells #[.int .u64 c', .slice a' n' cc'] 25) = wi := ⟨_, rfl⟩
  have hxa : Blk wi w.heap.size 25 #[.int .u64 c, .slice a n cc] := by rw [← hwi]; exact (Blk.new _ _ _).alloc _
  have hxb : Blk wi (w.heap.size + 1) 25 #[.int .u64 c', .slice a' n' cc'] := by
    rw [← hwi]
    have := Blk.new (w.alloc (.cells #[.int .u64 c, .slice a n cc] 25)) 25 #[.int .u64 c', .slice a' n' cc']
    rwa [World.size_alloc] at this
  rw [hwi] at hbw
  have x0 := hxa.cell 0
  have x1 := hxa.cell 1
  have y0 := hxb.cell 0
  have y1 := hxb.cell 1
  have g0 := hxa.lt
  have g1 := hxb.lt
  by_cases hm : mayPush c l = 0
  rotate_left
  · have e1 : (mayPush c l != 0) = true := by simpa using hm
    generalize mayPush c l = X at h1 e1
    have H1 := Lib.hid h1
    have H2 := Lib.hid h2
    have H3 := Lib.hid h3
    have Hxa := Lib.hid hxa
    have Hxb := Lib.hid hxb
    have Hbw := Lib.hid hbw
    have HT := Lib.hid hT
    have HN := Lib.hid hN
    have H := Lib.hid h
    have H' := Lib.hid h'
    clear h1 h2 h3 hxa hxb hbw hT hN h h'
    clear hm
    go_enter Tryz.func5, Tryz.ntmps5
    go_upto_region 1 with (fail)
    clear hwi
    go_wp2_with (first
      | (go_at_call 7; (with_reducible refine (H1.out _ Hbw.out).mono ?_); rintro e w1 ⟨rfl, hb1⟩; have hw1 := Hbw.out.trans (hb1.mono Hbw.out.size))
      | (go_at_call 8; (with_reducible refine (H3.out _ hw1).mono ?_); rintro e w2 ⟨rfl, hb2⟩; have hw2 := hw1.trans (hb2.mono hw1.size)))
    go_ret
    exact ⟨rfl, hw2⟩
  by_cases hm' : mayPush c' l' = 0
  rotate_left
  · have e1 : (mayPush c' l' != 0) = true := by simpa using hm'
    rw [hm] at h1
    generalize mayPush c' l' = X at h2 e1
    have H1 := Lib.hid h1
    have H2 := Lib.hid h2
    have H3 := Lib.hid h3
    have Hxa := Lib.hid hxa
    have Hxb := Lib.hid hxb
    have Hbw := Lib.hid hbw
    have HT := Lib.hid hT
    have HN := Lib.hid hN
    have H := Lib.hid h
    have H' := Lib.hid h'
    clear h1 h2 h3 hxa hxb hbw hT hN h h'
    clear hm hm'
    go_enter Tryz.func5, Tryz.ntmps5
    go_upto_region 1 with (fail)
    clear hwi
    go_wp2_with (fail)
    with_reducible refine (H1.out _ Hbw.out).mono ?_
    rintro e w1 ⟨rfl, hb1⟩
    have hw1 := Hbw.out.trans (hb1.mono Hbw.out.size)
    have u0 := (Hxb.out.below hb1 Hxb.out.lt).cell 0
    have u1 := (Hxb.out.below hb1 Hxb.out.lt).cell 1
    have Hb1 := Lib.hid hb1
    have Hw1 := Lib.hid hw1
    clear hb1 hw1
    go_wp2_with (fail)
    with_reducible refine (H2.out _ Hw1.out).mono ?_
    rintro e w2 ⟨rfl, hb2⟩
    have hw2 := Hw1.out.trans (hb2.mono Hw1.out.size)
    have Hb2 := Lib.hid hb2
    have Hw2 := Lib.hid hw2
    clear hb2 hw2
    clear u0 u1
    go_wp2_with (fail)
    with_reducible refine (H3.out _ Hw2.out).mono ?_
    rintro e w3 ⟨rfl, hb3⟩
    have hw3 := Hw2.out.trans (hb3.mono Hw2.out.size)
    have Hb3 := Lib.hid hb3
    have Hw3 := Lib.hid hw3
    clear hb3 hw3
    go_wp2
    go_ret
    exact ⟨rfl, Hw3.out⟩
  · have hmn := mayPush_parts hm
    have hmn' := mayPush_parts hm'
    have hE := fun (W : World) hB => pencode_calls c l a n cc W hc (hT.below (w' := W) hB) (hN.below hB) ((h.below hB).more hB.size) hb hin hm
    have hE' := fun (W : World) hB => pencode_calls c' l' a' n' cc' W hc' (hT.below (w' := W) hB) (hN.below hB) ((h'.below hB).more hB.size) hb' hin' hm'
    have hF := push_frames (c := c) (c' := c') hmn hmn'
    have hl1 : (sealL (1 :: textV (ov (pushO c l)))).length ≤ 2000000000 := by
      have := textV_len _ (okV_of _ 1 (may_push (c := c) hmn) (in_push hc (by unfold mayPush at hm; split at hm; cases hm; omega) hmn hin))
      have := bulk_push c l hb
      rw [seal_len, List.length_cons]; omega
    have hl2 : (sealL (1 :: textV (ov (pushO c' l')))).length ≤ 2000000000 := by
      have := textV_len _ (okV_of _ 1 (may_push (c := c') hmn') (in_push hc' (by unfold mayPush at hm'; split at hm'; cases hm'; omega) hmn' hin'))
      have := bulk_push c' l' hb'
      rw [seal_len, List.length_cons]; omega
    have hQ := fun (W : World) (hB : Below w.heap.size w W) => same17_calls c c' l l' a a' n cc n' cc' W ((h.below hB).more hB.size) ((h'.below hB).more hB.size) (by omega) (by omega)
    generalize sealL (1 :: textV (ov (pushO c l))) = L1 at hE hF hl1
    generalize sealL (1 :: textV (ov (pushO c' l'))) = L2 at hE' hF hl2
    obtain ⟨B, hB⟩ : ∃ B, decide (L1 = L2) = B := ⟨_, rfl⟩
    have hQ' : ∀ W, Below w.heap.size w W → Calls Tryz.prog 13 #[.agg #[.int .u64 c, .slice a n cc], .agg #[.int .u64 c', .slice a' n' cc']] W fun e w' => e = .returned (.bool B) ∧ Below W.heap.size W w' := fun W hW => by
      refine (hQ W hW).mono ?_
      rintro e w' ⟨B', rfl, hB', hb2⟩
      refine ⟨?_, hb2⟩
      have : B' = B := by
        rw [← hB]
        by_cases e : L1 = L2
        · rw [decide_eq_true e]; exact hB'.2 (hF.1 e)
        · rw [decide_eq_false e]
          cases B' with
          | false => rfl
          | true => exact absurd (hF.2 (hB'.1 rfl)) e
      rw [this]
    rw [hm] at h1
    rw [hm'] at h2
    have hS := fun (W : World) a n c a' n' c' h h' => same_calls L1 L2 a a' n c n' c' B W h h' hl1 hl2 hB
    have eB : (B == B) = true := by simp
    have H1 := Lib.hid h1
    have H2 := Lib.hid h2
    have H3 := Lib.hid h3
    have Hxa := Lib.hid hxa
    have Hxb := Lib.hid hxb
    have Hbw := Lib.hid hbw
    have HT := Lib.hid hT
    have HN := Lib.hid hN
    have H := Lib.hid h
    have H' := Lib.hid h'
    have HE := Lib.hid hE
    have HE' := Lib.hid hE'
    have HQ' := Lib.hid hQ'
    have HS := Lib.hid hS
    clear h1 h2 h3 hxa hxb hbw hT hN h h' hE hE' hQ' hS
    clear hm hm' hmn hmn' hF hl1 hl2 hQ hB
    go_enter Tryz.func5, Tryz.ntmps5
    go_upto_region 1 with (fail)
    clear hwi
    go_wp2_with (fail)
    with_reducible refine (H1.out _ Hbw.out).mono ?_
    rintro e w1 ⟨rfl, hb1⟩
    have hw1 := Hbw.out.trans (hb1.mono Hbw.out.size)
    have hx1 := Hxa.out.below hb1 Hxa.out.lt
    have hy1 := Hxb.out.below hb1 Hxb.out.lt
    have u0 := hy1.cell 0
    have u1 := hy1.cell 1
    have Hb1 := Lib.hid hb1
    have Hw1 := Lib.hid hw1
    have Hx1 := Lib.hid hx1
    have Hy1 := Lib.hid hy1
    clear hb1 hw1 hx1 hy1
    clear x0 x1 y0 y1 g0 g1
    go_wp2_with (fail)
    with_reducible refine (H2.out _ Hw1.out).mono ?_
    rintro e w2 ⟨rfl, hb2⟩
    have hw2 := Hw1.out.trans (hb2.mono Hw1.out.size)
    have hx2 := Hx1.out.below hb2 Hx1.out.lt
    have hy2 := Hy1.out.below hb2 Hy1.out.lt
    clear u0 u1
    have u0 := hx2.cell 0
    have u1 := hx2.cell 1
    have Hb2 := Lib.hid hb2
    have Hw2 := Lib.hid hw2
    have Hx2 := Lib.hid hx2
    have Hy2 := Lib.hid hy2
    clear hb2 hw2 hx2 hy2
    go_wp2_with (fail)
    with_reducible refine (HE.out _ Hw2.out).mono ?_
    rintro e w3 ⟨a3, c3, rfl, hf3, hb3⟩
    have hw3 := Hw2.out.trans (hb3.mono Hw2.out.size)
    have hx3 := Hx2.out.below hb3 Hx2.out.lt
    have hy3 := Hy2.out.below hb3 Hy2.out.lt
    clear u0 u1
    have u0 := hy3.cell 0
    have u1 := hy3.cell 1
    have Hb3 := Lib.hid hb3
    have Hw3 := Lib.hid hw3
    have Hx3 := Lib.hid hx3
    have Hy3 := Lib.hid hy3
    have Hf3 := Lib.hid hf3
    clear hb3 hw3 hx3 hy3 hf3
    go_wp2_with (fail)
    with_reducible refine (HE'.out _ Hw3.out).mono ?_
    rintro e w4 ⟨a4, c4, rfl, hf4, hb4⟩
    have hw4 := Hw3.out.trans (hb4.mono Hw3.out.size)
    have hx4 := Hx3.out.below hb4 Hx3.out.lt
    have hy4 := Hy3.out.below hb4 Hy3.out.lt
    have hf34 := Hf3.out.later hb4
    clear u0 u1
    have u0 := hx4.cell 0
    have u1 := hx4.cell 1
    have v0 := hy4.cell 0
    have v1 := hy4.cell 1
    have g0 := hx4.lt
    have g1 := hy4.lt
    have hSS : ∀ W, Below w4.heap.size w4 W → Calls Tryz.prog 12 #[.slice a3 L1.length c3, .slice a4 L2.length c4] W fun e w' => e = .returned (.bool B) ∧ Below W.heap.size W w' := fun W hW => HS.out W _ _ _ _ _ _ (hf34.later hW).now (hf4.later hW).now
    have hQQ := fun W (hW : Below w4.heap.size w4 W) => HQ'.out W (hw4.trans (hW.mono hw4.size))
    have hKK := fun W (hW : Below w4.heap.size w4 W) => H3.out W (hw4.trans (hW.mono hw4.size))
    have Hb4 := Lib.hid hb4
    have Hw4 := Lib.hid hw4
    have Hx4 := Lib.hid hx4
    have Hy4 := Lib.hid hy4
    have Hf4 := Lib.hid hf4
    have Hf34 := Lib.hid hf34
    have HSS := Lib.hid hSS
    have HQQ := Lib.hid hQQ
    have HKK := Lib.hid hKK
    clear hb4 hw4 hx4 hy4 hf4 hf34 hSS hQQ hKK
    go_upto_region 5 with (fail)
    go_region_held3 (fun W => W.cell? ⟨w.heap.size, 0, none⟩ = some (.int .u64 c) ∧ W.cell? ⟨w.heap.size, 1, none⟩ = some (.slice a n cc) ∧ W.cell? ⟨w.heap.size + 1, 0, none⟩ = some (.int .u64 c') ∧ W.cell? ⟨w.heap.size + 1, 1, none⟩ = some (.slice a' n' cc')) (go_keep) (first
      | (go_at_call 12; (first | refine (HSS.out _ (Below.drew (Below.refl _ _))).mono ?_ | refine (HSS.out _ hbrB).mono ?_); rintro e wA ⟨rfl, hbA⟩; have hbrA : Below w4.heap.size w4 wA := (by first | exact (Below.drew (Below.refl _ _)).trans hbA | exact hbrB.trans (hbA.mono hbrB.size)); obtain ⟨hcA, hfA⟩ := bcellM hbrA)
      | (go_at_call 13; (first | refine (HQQ.out _ (Below.drew (Below.refl _ _))).mono ?_ | refine (HQQ.out _ hbrA).mono ?_); rintro e wB ⟨rfl, hbB⟩; have hbrB : Below w4.heap.size w4 wB := (by first | exact (Below.drew (Below.refl _ _)).trans hbB | exact hbrA.trans (hbB.mono hbrA.size)); obtain ⟨hcB, hfB⟩ := bcellM hbrB)
      | (go_at_call 8; (first | refine (HKK.out _ hbrA).mono ?_ | refine (HKK.out _ hbrB).mono ?_); rintro e wC ⟨rfl, hbC⟩; have hbrC : Below w4.heap.size w4 wC := (by first | exact hbrA.trans (hbC.mono hbrA.size) | exact hbrB.trans (hbC.mono hbrB.size)); obtain ⟨hcC, hfC⟩ := bcellM hbrC))
    all_goals
      have HP := Lib.hid (Hw4.out.trans (hbrC.mono Hw4.out.size))
      clear hcA hfA hcB hfB hcC hfC hbA hbB hbC hbrA hbrB hbrC u0 u1 v0 v1
      go_wp2
      go_ret
      exact ⟨rfl, HP.out⟩
end Go.Proofs.YtkoliaodkojghaaGreatDoor
