/- Parts, joined: A mutator's object, as data: it may be, where the mutator may. Plain. No condition. -/
import Derived.Test.YtemceefalkfneaaGreatDoorProg
import Derived.Test.YtemceefalkfneaaGreatDoorKCm26
import Derived.Test.YtemceefalkfneaaGreatDoorKPushSpoilt1
/- A mutator's object, as data: it may be, where the mutator may. Plain. No condition. -/
namespace Go.Proofs.YtemceefalkfneaaGreatDoor
open Go.RowKit

abbrev kArgs : ByteArray := ⟨#[97, 114, 103, 115]⟩
abbrev kName : ByteArray := ⟨#[110, 97, 109, 101]⟩
abbrev kBy : ByteArray := ⟨#[98, 121]⟩
abbrev kIs : ByteArray := ⟨#[105, 115]⟩
abbrev kWas : ByteArray := ⟨#[119, 97, 115]⟩
abbrev kFrom : ByteArray := ⟨#[102, 114, 111, 109]⟩
abbrev kTo : ByteArray := ⟨#[116, 111]⟩
abbrev kDo : ByteArray := ⟨#[100, 111]⟩
abbrev kIf : ByteArray := ⟨#[105, 102]⟩
abbrev kId : ByteArray := ⟨#[105, 100]⟩
abbrev kMut : ByteArray := ⟨#[109, 117, 116, 97, 116, 111, 114]⟩
abbrev kCli : ByteArray := ⟨#[99, 108, 105, 101, 110, 116]⟩
abbrev kList : ByteArray := ⟨#[108, 105, 115, 116]⟩
abbrev nPut : ByteArray := ⟨#[112, 117, 116]⟩
abbrev nDel : ByteArray := ⟨#[100, 101, 108]⟩
abbrev nInc : ByteArray := ⟨#[105, 110, 99]⟩
abbrev nCas : ByteArray := ⟨#[99, 97, 115]⟩
abbrev nApp : ByteArray := ⟨#[97, 112, 112, 101, 110, 100]⟩
abbrev nMove : ByteArray := ⟨#[109, 111, 118, 101]⟩
abbrev nSeq : ByteArray := ⟨#[115, 101, 113]⟩
/-- The kinds' names. -/
def nameM (k : Int) : ByteArray := if k = 1 then nPut else if k = 2 then nDel else if k = 3 then nInc else if k = 4 then nCas else if k = 5 then nApp else if k = 6 then nMove else nSeq
/-- What a mutator says that its Key must have. -/
def guardO (key : ByteArray) (had : Bool) (was : Val) : List (ByteArray × Val) := (kKey, tv key) :: (if had then [(kWas, was)] else [])
mutual
/-- A mutator's object. -/
def mutV : Mut → Val
  | .mk k key dst n had was has v l => ov [(kArgs, ov (if k = 1 ∨ k = 5 then [(kKey, tv key), (kVal, v)] else if k = 2 then [(kKey, tv key)] else if k = 3 then [(kBy, iv n), (kKey, tv key)]
      else if k = 4 then (if has then [(kIs, v)] else []) ++ guardO key had was
      else if k = 6 then [(kFrom, tv key), (kTo, tv dst)]
      else (kDo, lv (mutVs l)) :: (if key.toList.isEmpty then [] else [(kIf, ov (guardO key had was))]))), (kName, tv (nameM k))]
def mutVs : List Mut → List Val
  | [] => []
  | m :: r => mutV m :: mutVs r
end
theorem mutVs_map : ∀ l : List Mut, mutVs l = l.map mutV
  | [] => rfl
  | m :: r => by simp only [mutVs, List.map_cons, mutVs_map r]
theorem mutVs_len (l : List Mut) : (mutVs l).length = l.length := by rw [mutVs_map, List.length_map]

theorem name_valid (k : Int) : validB (nameM k) = true := by
  unfold nameM
  split
  · decide
  split
  · decide
  split
  · decide
  split
  · decide
  split
  · decide
  split
  · decide
  · decide
theorem no_last (k : ByteArray) : ∀ q, (none : Option ByteArray) = some q → leB k q = false := fun _ e => by cases e
theorem a_last {k p : ByteArray} (h : leB k p = false) : ∀ q, some p = some q → leB k q = false := fun _ e => by cases e; exact h
theorem may_fits {v : Val} {d : Int} (h : fitsV v = 0) (hd : d ≤ 48) : mayV v d = 0 := by
  obtain ⟨f1, f2, _⟩ := fits_parts h
  exact mayV_deeper v _ 1 f1 (by omega)
theorem short_valid {s : ByteArray} (h : shortB s = true) : validB s = true := by
  unfold shortB at h
  simp only [Bool.and_eq_true] at h
  exact h.2
/-- What mayM says of a mutator that may be. -/
theorem mayM_parts {k : Int} {key dst : ByteArray} {n : Int} {had : Bool} {was : Val} {has : Bool} {v : Val} {l : List Mut} {d : Int} (h : mayM (.mk k key dst n had was has v l) d = 0) :
    bareF k dst n had (zeroB was) has (zeroB v) l.length = true ∧ d ≤ 6 ∧ keyedB k key dst had = true ∧ (had = true → fitsV was = 0) ∧ ((has || decide (k = 1) || decide (k = 5)) = true → fitsV v = 0) ∧ mayMs l (d + 1) = 0 := by
  simp only [mayM] at h
  by_cases h1 : bareF k dst n had (zeroB was) has (zeroB v) l.length = false
  · rw [if_pos h1] at h; cases h
  rw [if_neg h1] at h
  by_cases h2 : 6 < d
  · rw [if_pos h2] at h; cases h
  rw [if_neg h2] at h
  by_cases h3 : keyedB k key dst had = false
  · rw [if_pos h3] at h; cases h
  rw [if_neg h3] at h
  by_cases h4 : had = true ∧ fitsV was ≠ 0
  · rw [if_pos h4] at h; exact absurd h h4.2
  rw [if_neg h4] at h
  by_cases h5 : (has || decide (k = 1) || decide (k = 5)) = true ∧ fitsV v ≠ 0
  · rw [if_pos h5] at h; exact absurd h h5.2
  rw [if_neg h5] at h
  exact ⟨by simpa using h1, by omega, by simpa using h3, fun e => by by_cases e2 : fitsV was = 0; exact e2; exact absurd ⟨e, e2⟩ h4, fun e => by by_cases e2 : fitsV v = 0; exact e2; exact absurd ⟨e, e2⟩ h5, h⟩
theorem mayMs_mem {l : List Mut} {d : Int} (h : mayMs l d = 0) : ∀ m ∈ l, mayM m d = 0 := by
  induction l with
  | nil => intro m hm; cases hm
  | cons x r ih =>
    simp only [mayMs] at h
    by_cases hx : mayM x d = 0
    · rw [if_pos hx] at h
      intro m hm
      rcases List.mem_cons.1 hm with rfl | hm
      · exact hx
      · exact ih h m hm
    · rw [if_neg hx] at h; exact absurd h hx
theorem bare_kind {k : Int} {dst : ByteArray} {n : Int} {had wasZ has valZ : Bool} {ln : Nat} (h : bareF k dst n had wasZ has valZ ln = true) : 1 ≤ k ∧ k ≤ 7 := by
  unfold bareF at h
  simp only [Bool.and_eq_true, decide_eq_true_eq] at h
  exact ⟨by omega, by omega⟩
theorem may_guard {key : ByteArray} {had : Bool} {was : Val} {d : Int} (hk : validB key = true) (hw : had = true → fitsV was = 0) (hd : d ≤ 48) {last : Option ByteArray} (hl : ∀ q, last = some q → leB kKey q = false) : mayO (guardO key had was) last d = 0 := by
  have v1 : validB kKey = true := by decide
  have v2 : validB kWas = true := by decide
  have l1 : leB kWas kKey = false := by decide +kernel
  unfold guardO
  refine mayO_cons v1 (may_tv hk (by omega)) hl ?_
  cases had with
  | false => simp [mayO]
  | true => simpa using mayO_cons v2 (may_fits (hw rfl) hd) (a_last l1) (by simp [mayO])

theorem may_mutV : ∀ (m : Mut) (e d : Int), mayM m e = 0 → 1 ≤ e → d + 3 * (6 - e) ≤ 40 → mayV (mutV m) d = 0 := by
  refine Mut.ind ?_
  intro k key dst n had was has v l IH e d h he hd
  obtain ⟨h1, h2, h3, h4, h5, h6⟩ := mayM_parts h
  obtain ⟨k1, k7⟩ := bare_kind h1
  have b1 : validB kArgs = true := by decide
  have b2 : validB kName = true := by decide
  have b3 : validB kKey = true := by decide
  have b4 : validB kVal = true := by decide
  have b5 : validB kBy = true := by decide
  have b6 : validB kIs = true := by decide
  have b7 : validB kFrom = true := by decide
  have b8 : validB kTo = true := by decide
  have b9 : validB kDo = true := by decide
  have b10 : validB kIf = true := by decide
  have l1 : leB kName kArgs = false := by decide +kernel
  have l2 : leB kVal kKey = false := by decide +kernel
  have l3 : leB kKey kBy = false := by decide +kernel
  have l4 : leB kKey kIs = false := by decide +kernel
  have l5 : leB kTo kFrom = false := by decide +kernel
  have l6 : leB kIf kDo = false := by decide +kernel
  simp only [mutV]
  refine may_ov (by omega) (mayO_cons b1 (may_ov (by omega) ?_) (no_last _) (mayO_cons b2 (may_tv (name_valid k) (by omega)) (a_last l1) (by simp [mayO])))
  by_cases e1 : k = 1 ∨ k = 5
  · rw [if_pos e1]
    have hkey : validB key = true := keyB_valid (by unfold keyedB at h3; rwa [if_neg (by omega), if_neg (by rintro ⟨rfl, _⟩; omega)] at h3)
    have hf : fitsV v = 0 := h5 (by rcases e1 with rfl | rfl <;> simp)
    exact mayO_cons b3 (may_tv hkey (by omega)) (no_last _) (mayO_cons b4 (may_fits hf (by omega)) (a_last l2) (by simp [mayO]))
  rw [if_neg e1]
  by_cases e2 : k = 2
  · rw [if_pos e2]
    have hkey : validB key = true := keyB_valid (by unfold keyedB at h3; rwa [if_neg (by omega), if_neg (by rintro ⟨rfl, _⟩; omega)] at h3)
    exact mayO_cons b3 (may_tv hkey (by omega)) (no_last _) (by simp [mayO])
  rw [if_neg e2]
  by_cases e3 : k = 3
  · rw [if_pos e3]
    have hkey : validB key = true := keyB_valid (by unfold keyedB at h3; rwa [if_neg (by omega), if_neg (by rintro ⟨rfl, _⟩; omega)] at h3)
    exact mayO_cons b5 (may_iv (by omega)) (no_last _) (mayO_cons b3 (may_tv hkey (by omega)) (a_last l3) (by simp [mayO]))
  rw [if_neg e3]
  by_cases e4 : k = 4
  · rw [if_pos e4]
    have hkey : validB key = true := keyB_valid (by unfold keyedB at h3; rwa [if_neg (by omega), if_neg (by rintro ⟨rfl, _⟩; omega)] at h3)
    cases has with
    | false => simpa using may_guard hkey h4 (by omega) (no_last _)
    | true => exact mayO_cons b6 (may_fits (h5 (by simp)) (by omega)) (no_last _) (may_guard hkey h4 (by omega) (a_last l4))
  rw [if_neg e4]
  by_cases e6 : k = 6
  · rw [if_pos e6]
    unfold keyedB at h3
    rw [if_pos e6, Bool.and_eq_true] at h3
    exact mayO_cons b7 (may_tv (short_valid h3.1) (by omega)) (no_last _) (mayO_cons b8 (may_tv (short_valid h3.2) (by omega)) (a_last l5) (by simp [mayO]))
  rw [if_neg e6]
  obtain rfl : k = 7 := by omega
  have hdo : ∀ f : Int, f = d + 1 + 1 → mayV (lv (mutVs l)) f = 0 := by
    rintro f rfl
    refine may_lv (by omega) ?_
    rw [mutVs_map]
    refine mayL_ofQ fun x hx => ?_
    obtain ⟨m, hm, rfl⟩ := List.mem_map.1 hx
    exact IH m hm (e + 1) _ (mayMs_mem h6 m hm) (by omega) (by omega)
  refine mayO_cons b9 (hdo _ rfl) (no_last _) ?_
  by_cases hke : key.toList.isEmpty = true
  · rw [if_pos hke]; simp [mayO]
  · rw [if_neg hke]
    have hkey : validB key = true := keyB_valid (by unfold keyedB at h3; rwa [if_neg (by omega), if_neg (by rintro ⟨_, h⟩; exact hke h)] at h3)
    exact mayO_cons b10 (may_ov (by omega) (may_guard hkey h4 (by omega) (no_last _))) (a_last l6) (by simp [mayO])

theorem in_tv (s : ByteArray) : inV (tv s) := by simp only [tv, inV, inL, inO]; exact ⟨by omega, trivial, trivial⟩
theorem in_ivM {n : Int} (h : -9223372036854775808 ≤ n ∧ n ≤ 9223372036854775807) : inV (iv n) := by simp only [iv, inV, inL, inO]; exact ⟨h, trivial, trivial⟩
theorem in_ov {o : List (ByteArray × Val)} (h : inO o) : inV (ov o) := by simp only [ov, inV, inL]; exact ⟨by omega, trivial, h⟩
theorem in_lv {l : List Val} (h : inL l) : inV (lv l) := by simp only [lv, inV, inO]; exact ⟨by omega, h, trivial⟩
theorem in_guard (key : ByteArray) (had : Bool) {was : Val} (h : inV was) : inO (guardO key had was) := by
  unfold guardO
  cases had with
  | false => exact ⟨in_tv key, trivial⟩
  | true => exact ⟨in_tv key, h, trivial⟩
theorem inL_map : ∀ {l : List Mut}, (∀ m ∈ l, inV (mutV m)) → inL (mutVs l)
  | [], _ => trivial
  | m :: r, h => ⟨h m (by simp), inL_map fun x hx => h x (by simp [hx])⟩
theorem in_mutV : ∀ m : Mut, inM m → inV (mutV m) := by
  refine Mut.ind ?_
  intro k key dst n had was has v l IH h
  simp only [inM] at h
  obtain ⟨h1, h2, h3, h4⟩ := h
  simp only [mutV]
  refine in_ov ⟨in_ov ?_, in_tv (nameM k), trivial⟩
  split
  · exact ⟨in_tv key, h3, trivial⟩
  split
  · exact ⟨in_tv key, trivial⟩
  split
  · exact ⟨in_ivM h1, in_tv key, trivial⟩
  split
  · cases has with
    | false => exact in_guard key had h2
    | true => exact ⟨h3, in_guard key had h2⟩
  split
  · exact ⟨in_tv key, in_tv dst, trivial⟩
  · refine ⟨in_lv (inL_map fun m hm => IH m hm (inMs_mem hm h4)), ?_⟩
    split
    · trivial
    · exact ⟨in_ov (in_guard key had h2), trivial⟩
theorem bulk_guard (key : ByteArray) (had : Bool) (was : Val) : bulkO (guardO key had was) ≤ 20 + key.size + was.bulk := by
  have e1 : (⟨#[]⟩ : ByteArray).size = 0 := rfl
  have e2 : kKey.size = 3 := rfl
  have e3 : kWas.size = 3 := rfl
  unfold guardO
  cases had with
  | false => simp only [Bool.false_eq_true, if_false, bulkO, bulkP, tv, Val.bulk, bulkL, e2]; omega
  | true => simp only [if_true, bulkO, bulkP, tv, Val.bulk, bulkL, e2, e3]; omega
theorem name_size (k : Int) : (nameM k).size ≤ 6 := by
  unfold nameM
  split
  · decide
  split
  · decide
  split
  · decide
  split
  · decide
  split
  · decide
  split
  · decide
  · decide
theorem bulk_mutV : ∀ m : Mut, (mutV m).bulk ≤ 12 * bulkM m := by
  refine Mut.ind ?_
  intro k key dst n had was has v l IH
  have hl : bulkL (mutVs l) ≤ 12 * bulkMs l := by
    induction l with
    | nil => simp [mutVs, bulkL]
    | cons m r ih =>
      have h1 := IH m (by simp)
      have h2 := ih fun x hx => IH x (by simp [hx])
      simp only [mutVs, bulkL, bulkMs]; omega
  have hg := bulk_guard key had was
  have hn := name_size k
  have e1 : (⟨#[]⟩ : ByteArray).size = 0 := rfl
  have c1 : kArgs.size = 4 := rfl
  have c2 : kName.size = 4 := rfl
  have c3 : kKey.size = 3 := rfl
  have c4 : kVal.size = 5 := rfl
  have c5 : kBy.size = 2 := rfl
  have c6 : kIs.size = 2 := rfl
  have c7 : kFrom.size = 4 := rfl
  have c8 : kTo.size = 2 := rfl
  have c9 : kDo.size = 2 := rfl
  have c10 : kIf.size = 2 := rfl
  simp only [mutV, bulkM]
  split
  · simp only [ov, tv, Val.bulk, bulkL, bulkO, bulkP, e1, c1, c2, c3, c4]; omega
  split
  · simp only [ov, tv, Val.bulk, bulkL, bulkO, bulkP, e1, c1, c2, c3]; omega
  split
  · simp only [ov, tv, iv, Val.bulk, bulkL, bulkO, bulkP, e1, c1, c2, c3, c5]; omega
  split
  · cases has with
    | false => simp only [Bool.false_eq_true, if_false, List.nil_append, ov, tv, Val.bulk, bulkL, bulkO, bulkP, e1, c1, c2]; omega
    | true => simp only [if_true, List.singleton_append, ov, tv, Val.bulk, bulkL, bulkO, bulkP, e1, c1, c2, c6]; omega
  split
  · simp only [ov, tv, Val.bulk, bulkL, bulkO, bulkP, e1, c1, c2, c7, c8]; omega
  · split
    · simp only [ov, lv, tv, Val.bulk, bulkL, bulkO, bulkP, e1, c1, c2, c9]; omega
    · simp only [ov, lv, tv, Val.bulk, bulkL, bulkO, bulkP, e1, c1, c2, c9, c10]; omega

/-- A push's object. -/
def numV (p : Num) : Val := ov [(kId, iv p.id), (kMut, mutV p.m)]
def pushO (c : Int) (l : List Num) : List (ByteArray × Val) := [(kCli, iv c), (kList, lv (l.map numV))]
end Go.Proofs.YtemceefalkfneaaGreatDoor
