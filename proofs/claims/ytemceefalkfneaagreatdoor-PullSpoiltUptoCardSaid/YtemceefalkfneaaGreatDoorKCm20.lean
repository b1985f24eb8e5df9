/- Parts, joined: What commonplaceref02.Object comes to: members put where they belong. Plain. No condition. How the reference writes a rune, against how the program does. Plain. No condition. commonplaceref01.Quote: the quote of a text. Condition: a text of at most 10^9 bytes. Why a value may not be: the reference's function, over an object's members. Condition: a bulk of at most 10^9. -/
import Derived.Test.YtemceefalkfneaaGreatDoorProg
import Derived.Deep.QuietTactic
import Derived.Test.YtemceefalkfneaaGreatDoorKCm2
import Derived.Test.YtemceefalkfneaaGreatDoorKCm12
import Derived.Test.YtemceefalkfneaaGreatDoorKCm13
import Derived.Test.YtemceefalkfneaaGreatDoorKCm14
import Derived.Test.YtemceefalkfneaaGreatDoorKCm15
import Derived.Test.YtemceefalkfneaaGreatDoorKCm16
/- What commonplaceref02.Object comes to: members put where they belong. Plain. No condition. -/
namespace Go.Proofs.YtemceefalkfneaaGreatDoor
open Go.RowKit

def ltB (a b : ByteArray) : Bool := Op.bytesLess a.toList b.toList

/-- Where a key belongs: how many at the front have a less one. -/
def atO (k : ByteArray) : List (ByteArray × Val) → Nat
  | [] => 0
  | p :: r => if ltB p.1 k then atO k r + 1 else 0
/-- Is that key at its place already? -/
def hitO (k : ByteArray) (acc : List (ByteArray × Val)) : Bool := (acc[atO k acc]?).any fun p => p.1.toList == k.toList
def putO (m : ByteArray × Val) (acc : List (ByteArray × Val)) : List (ByteArray × Val) := acc.take (atO m.1 acc) ++ ([m] ++ acc.drop (atO m.1 acc))
/-- All members put, one behind the other; none where a key comes twice. -/
def objAll : List (ByteArray × Val) → List (ByteArray × Val) → Option (List (ByteArray × Val))
  | [], acc => some acc
  | m :: r, acc => if hitO m.1 acc then none else objAll r (putO m acc)

theorem atO_le (k : ByteArray) : ∀ acc, atO k acc ≤ acc.length
  | [] => Nat.zero_le _
  | p :: r => by
    have := atO_le k r
    simp only [atO, List.length_cons]
    split <;> omega
theorem atO_lt (k : ByteArray) : ∀ {acc : List (ByteArray × Val)} {j : Nat} {p : ByteArray × Val}, j < atO k acc → acc[j]? = some p → ltB p.1 k = true
  | [], j, p, h, hp => by simp at hp
  | q :: r, 0, p, h, hp => by
    simp only [atO] at h
    simp only [List.getElem?_cons_zero, Option.some.injEq] at hp
    subst hp
    by_cases hq : ltB q.1 k = true
    · exact hq
    · rw [if_neg hq] at h; omega
  | q :: r, j + 1, p, h, hp => by
    simp only [atO] at h
    by_cases hq : ltB q.1 k = true
    · rw [if_pos hq] at h
      exact atO_lt k (acc := r) (j := j) (by omega) (by simpa using hp)
    · rw [if_neg hq] at h; omega
theorem atO_at (k : ByteArray) : ∀ {acc : List (ByteArray × Val)} {p : ByteArray × Val}, acc[atO k acc]? = some p → ltB p.1 k = false
  | [], p, hp => by simp at hp
  | q :: r, p, hp => by
    by_cases hq : ltB q.1 k = true
    · simp only [atO, if_pos hq, List.getElem?_cons_succ] at hp
      exact atO_at k hp
    · simp only [atO, if_neg hq, List.getElem?_cons_zero, Option.some.injEq] at hp
      subst hp
      simpa using hq
theorem putO_len (m : ByteArray × Val) (acc : List (ByteArray × Val)) : (putO m acc).length = acc.length + 1 := by
  have := atO_le m.1 acc
  simp only [putO, List.length_append, List.length_take, List.length_drop, List.length_cons, List.length_nil]
  omega
theorem bulkO_put (m : ByteArray × Val) (acc : List (ByteArray × Val)) : bulkO (putO m acc) = bulkO acc + bulkP m := by
  have h := congrArg bulkO (List.take_append_drop (atO m.1 acc) acc)
  rw [bulkO_app] at h
  simp only [putO, bulkO_app, bulkO]
  omega
theorem inO_take : ∀ {l : List (ByteArray × Val)} (k : Nat), inO l → inO (l.take k)
  | [], k, _ => by simp [inO]
  | _ :: _, 0, _ => by simp [inO]
  | x :: r, k + 1, h => by
    simp only [List.take_succ_cons, inO] at h ⊢
    exact ⟨h.1, inO_take k h.2⟩
theorem inO_drop : ∀ {l : List (ByteArray × Val)} (k : Nat), inO l → inO (l.drop k)
  | [], k, _ => by simp [inO]
  | _ :: _, 0, h => h
  | x :: r, k + 1, h => by
    simp only [List.drop_succ_cons, inO] at h ⊢
    exact inO_drop k h.2
theorem inO_put {m : ByteArray × Val} {acc : List (ByteArray × Val)} (h : inO acc) (hm : inV m.2) : inO (putO m acc) := by
  obtain ⟨k, v⟩ := m
  exact inO_app (inO_take _ h) (inO_app ⟨hm, trivial⟩ (inO_drop _ h))
theorem objAll_bulk : ∀ {l acc o : List (ByteArray × Val)}, objAll l acc = some o → bulkO o = bulkO acc + bulkO l
  | [], acc, o, h => by
    simp only [objAll, Option.some.injEq] at h
    subst h
    simp [bulkO]
  | m :: r, acc, o, h => by
    simp only [objAll] at h
    by_cases hh : hitO m.1 acc = true
    · rw [if_pos hh] at h; cases h
    · rw [if_neg hh] at h
      rw [objAll_bulk h, bulkO_put]
      simp only [bulkO]
      omega
theorem objAll_in : ∀ {l acc o : List (ByteArray × Val)}, objAll l acc = some o → inO acc → inO l → inO o
  | [], acc, o, h, ha, _ => by
    simp only [objAll, Option.some.injEq] at h
    exact h ▸ ha
  | (k, v) :: r, acc, o, h, ha, hl => by
    simp only [objAll] at h
    by_cases hh : hitO k acc = true
    · rw [if_pos hh] at h; cases h
    · rw [if_neg hh] at h
      exact objAll_in h (inO_put ha hl.1) hl.2

end Go.Proofs.YtemceefalkfneaaGreatDoor

/- How the reference writes a rune, against how the program does. Plain. No condition. -/
namespace Go.Proofs.YtemceefalkfneaaGreatDoor
open Go.RowKit

/-- The escapes' letters. -/
def letTab : List UInt8 := [34, 92, 47, 98, 102, 110, 114, 116]

theorem quoteRune_let : ∀ j : Fin 8, j.val ≠ 2 → quoteRune ((codeTab.getD j.val 0).toNat) = [92, letTab.getD j.val 0] := by decide

/-- No escape of one letter. -/
def NoLet (r : Nat) (j : Nat) : Prop := ∀ i : Nat, i < j → i ≠ 2 → codeTab.getD i 0 ≠ (r : Int)

theorem NoLet.all {r : Nat} (h : NoLet r 8) : r ≠ 34 ∧ r ≠ 92 ∧ r ≠ 8 ∧ r ≠ 12 ∧ r ≠ 10 ∧ r ≠ 13 ∧ r ≠ 9 := by
  have h0 := h 0 (by omega) (by omega)
  have h1 := h 1 (by omega) (by omega)
  have h3 := h 3 (by omega) (by omega)
  have h4 := h 4 (by omega) (by omega)
  have h5 := h 5 (by omega) (by omega)
  have h6 := h 6 (by omega) (by omega)
  have h7 := h 7 (by omega) (by omega)
  simp [codeTab] at h0 h1 h3 h4 h5 h6 h7
  omega

theorem quoteRune_no {r : Nat} (h : NoLet r 8) : quoteRune r = if r < 32 then [92, 117, 48, 48, hexd (r / 16), hexd (r % 16)] else Lib.encodeRune r := by
  obtain ⟨a1, a2, a3, a4, a5, a6, a7⟩ := h.all
  unfold quoteRune
  by_cases h32 : r < 32
  · rw [if_neg (by omega), if_pos h32]
    have : findKV (r : Int) letterTab = none := by
      simp only [letterTab, findKV]
      repeat rw [if_neg (by omega)]
    rw [this]
  · rw [if_pos (by omega), if_neg h32]

theorem NoLet.step {r j : Nat} (h : NoLet r j) (hj : j = 2 ∨ codeTab.getD j 0 ≠ (r : Int)) : NoLet r (j + 1) := by
  intro i hi h2
  by_cases he : i = j
  · subst he
    rcases hj with hj | hj
    · exact absurd hj h2
    · exact hj
  · exact h i (by omega) h2

/-- What a rune of a text is. -/
def scalar (r : Nat) : Prop := r ≤ 1114111 ∧ ¬(55296 ≤ r ∧ r < 57344)

theorem atEnd_range (F : Option Int) (n : Nat) (least : Int) : (atEnd F n least).2 = 0 ∨ ((atEnd F n least).1 ≤ 1114111 ∧ ¬(55296 ≤ (atEnd F n least).1 ∧ (atEnd F n least).1 < 57344)) := by
  unfold atEnd
  split
  · simp
  · split
    · simp
    · rename_i h
      right
      simp only
      omega

theorem atTail_range (rest : List UInt8) (n : Nat) (r0 least : Int) : (atTail rest n r0 least).2 = 0 ∨ ((atTail rest n r0 least).1 ≤ 1114111 ∧ ¬(55296 ≤ (atTail rest n r0 least).1 ∧ (atTail rest n r0 least).1 < 57344)) := by
  unfold atTail
  split
  · exact .inl rfl
  · exact atEnd_range _ _ _
theorem atSpec_range (l : List UInt8) : (atSpec l).2 = 0 ∨ ((atSpec l).1 ≤ 1114111 ∧ ¬(55296 ≤ (atSpec l).1 ∧ (atSpec l).1 < 57344)) := by
  cases l with
  | nil => exact .inl rfl
  | cons c rest =>
    rw [atSpec_cons]
    by_cases h1 : (c.toNat : Int) < 128
    · rw [if_pos h1]
      right
      simp only
      omega
    rw [if_neg h1]
    split
    · exact atTail_range _ _ _ _
    split
    · exact atTail_range _ _ _ _
    split
    · exact atTail_range _ _ _ _
    · exact .inl rfl
theorem runesFrom_scalar : ∀ (n : Nat) (l : List UInt8) (p : Nat), ∀ x ∈ runesFrom n l p, scalar x.2
  | 0, _, _, x, hx => by simp [runesFrom] at hx
  | n + 1, l, p, x, hx => by
    by_cases h : l = []
    · subst h
      simp [runesFrom] at hx
    · rcases runesFrom_step h n p with ⟨_, e⟩ | ⟨m, r, hn, h1, _, e⟩
      · rw [e] at hx
        cases hx
      · rw [e] at hx
        rcases List.mem_cons.1 hx with rfl | hx
        · have := atSpec_range l
          rw [hn] at this
          unfold scalar
          simp only at this ⊢
          omega
        · exact runesFrom_scalar n _ _ x hx

theorem run_hex (d : Nat) (hd : d < 16) (w : World) : (Instr.slice 9 (.string ⟨#[48, 49, 50, 51, 52, 53, 54, 55, 56, 57, 97, 98, 99, 100, 101, 102]⟩) (some (.int .i64 d)) (some (.int .i64 ((d : Int) + 1))) none).run Tryz.prog w = .ok (.string ⟨#[hexd d]⟩) w := by
  have := run_cut ⟨#[48, 49, 50, 51, 52, 53, 54, 55, 56, 57, 97, 98, 99, 100, 101, 102]⟩ d (d + 1) (by omega) (by show d + 1 ≤ 16; omega) w
  have e : ∀ d : Fin 16, (⟨#[48, 49, 50, 51, 52, 53, 54, 55, 56, 57, 97, 98, 99, 100, 101, 102]⟩ : ByteArray).extract d.val (d.val + 1) = ⟨#[hexd d.val]⟩ := by decide
  rw [e ⟨d, hd⟩] at this
  exact this
theorem run_let (d : Nat) (hd : d < 8) (w : World) : (Instr.slice 9 (.string ⟨#[34, 92, 47, 98, 102, 110, 114, 116]⟩) (some (.int .i64 d)) (some (.int .i64 ((d : Int) + 1))) none).run Tryz.prog w = .ok (.string ⟨#[letTab.getD d 0]⟩) w := by
  have := run_cut ⟨#[34, 92, 47, 98, 102, 110, 114, 116]⟩ d (d + 1) (by omega) (by show d + 1 ≤ 8; omega) w
  have e : ∀ d : Fin 8, (⟨#[34, 92, 47, 98, 102, 110, 114, 116]⟩ : ByteArray).extract d.val (d.val + 1) = ⟨#[letTab.getD d.val 0]⟩ := by decide
  rw [e ⟨d, hd⟩] at this
  exact this

end Go.Proofs.YtemceefalkfneaaGreatDoor

/- commonplaceref01.Quote: the quote of a text. Condition: a text of at most 10^9 bytes. -/
namespace Go.Proofs.YtemceefalkfneaaGreatDoor
open Go.RowKit

theorem encodeRune_len4 (r : Int) : (Lib.encodeRune r).length ≤ 4 := by
  unfold Lib.encodeRune Lib.encodeRuneZ
  repeat' split
  all_goals simp

set_option maxRecDepth 100000 in
set_option maxHeartbeats 4000000 in
theorem RQuote_calls (s : ByteArray) (w : World) (hs : s.size ≤ 1000000000) (hv : validB s = true) :
    Calls Tryz.prog 133 #[.string s] w fun e w' => e = .returned (.tuple #[.string ⟨(quoteB s).toArray⟩, .int .i64 0]) ∧ Below w.heap.size w w' := by
  have cV := RValid_calls s w hs
  rw [hv] at cV
  have cR := RRunes_calls s w hs
  have hlr : (runes s).length ≤ s.size := runesFrom_len _ _ _
  have hsc : ∀ x ∈ runes s, scalar x.2 := runesFrom_scalar _ _ _
  unfold quoteB
  generalize runes s = L at *
  have HV := Lib.hid cV
  have HR := Lib.hid cR
  have HS := Lib.hid hsc
  clear cV cR hsc hv
  go_enter Tryz.func133, Tryz.ntmps133
  go_wp2_with (fail)
  with_reducible refine HV.out.mono ?_
  rintro e w' ⟨rfl, rfl⟩
  clear HV
  go_wp2_with (fail)
  with_reducible refine HR.out.mono ?_
  rintro e w1 ⟨⟨v1, v2, rfl, hown⟩, hb1⟩
  clear HR
  obtain ⟨la, lc, rfl, hcells⟩ : ∃ la lc, v1 = .slice la L.length lc ∧ Hid (∀ (k : Nat) (x : Nat × Nat), L[k]? = some x → ∃ g off, la = some ⟨g, off, none⟩ ∧ g < w1.heap.size ∧ w1.cell? ⟨g, off + k, none⟩ = some (.int .i64 x.2)) := by
    rcases hown.2 with ⟨hv, hz⟩ | ⟨g, cap, cur, rfl, hbg, hg, hnc, hcm, hcs, htake⟩
    · have hL : L = [] := List.length_eq_zero_iff.1 hz
      subst hL
      exact ⟨none, 0, hv, fun k x hx => by simp at hx⟩
    · refine ⟨some ⟨g, 0, none⟩, cap, rfl, fun k x hx => ⟨g, 0, rfl, (Array.getElem?_eq_some_iff.1 hg).1, ?_⟩⟩
      have := hown.cells (g := g) rfl k (.int .i64 x.2) (by simp [hx])
      rw [Go.WideShapes.add_plain, Nat.zero_add] at this
      rw [Nat.zero_add]
      exact this
  have hb1' := Lib.hid hb1
  have H0 : Hid ((⟨#[34]⟩ : ByteArray).data.toList = 34 :: quoteRunes (L.take 0)) := by show _ = _; simp [quoteRunes]
  clear hown hb1
  go_wp2_with (fail)
  go_loopw [4, 8] (fun o i wr => ∃ (T : ByteArray) (k : Nat), o = .string T ∧ i = .int .i64 k ∧ k ≤ L.length ∧ Hid (T.data.toList = 34 :: quoteRunes (L.take k)) ∧ Hid (Below w1.heap.size w1 wr)) (fun _ i _ => L.length - (intOf i).toNat)
  case atStart => exact ⟨_, 0, rfl, rfl, Nat.zero_le _, H0, Below.refl _ _⟩
  case round =>
    obtain ⟨T, k, rfl, rfl, hk, hT, hbw⟩ := hrel
    clear H0
    obtain ⟨wo, rfl⟩ : ∃ wo : World, wo = wr := ⟨_, rfl⟩
    have hTs : T.size ≤ 6 * L.length + 1 := by
      have h1 := congrArg List.length hT.out
      have h2 := quoteRunes_len (L.take k)
      have h3 : (L.take k).length ≤ L.length := by rw [List.length_take]; omega
      have h4 : T.data.toList.length = T.size := by rw [Array.length_toList]; rfl
      simp only [List.length_cons] at h1
      omega
    by_cases hlt : k < L.length
    · obtain ⟨⟨p, r⟩, hx⟩ : ∃ v, L[k]? = some v := ⟨_, List.getElem?_eq_getElem hlt⟩
      obtain ⟨g, off, rfl, hg, hc0⟩ := hcells.out k _ hx
      have hc : wo.cell? ⟨g, off + k, none⟩ = some (.int .i64 r) := (hbw.out.cell (p := ⟨g, off + k, none⟩) hg).trans hc0
      have hsc := HS.out _ (List.mem_of_getElem? hx)
      unfold scalar at hsc
      simp only at hsc
      obtain ⟨hsc1, hsc2⟩ := hsc
      have htk : L.take (k + 1) = L.take k ++ [(p, r)] := by rw [List.take_add_one, hx]; rfl
      have hsn : Hid (34 :: quoteRunes (L.take (k + 1)) = T.data.toList ++ quoteRune r) := by
        show _ = _
        rw [htk, hT.out]; simp [quoteRunes]
      have Hsc := Lib.hid hsc2
      have hB0 : Hid (Below w1.heap.size w1 wo) := hbw
      have hN0 : Hid (NoLet r 0) := fun i hi => by omega
      clear hT htk hx hc0 hsc2 hbw
      go_wp2_with (fail)
      go_loopw [10] (fun j wr => ∃ n : Nat, j = .int .i64 n ∧ n ≤ 8 ∧ Hid (NoLet r n) ∧ Hid (Below w1.heap.size w1 wr)) (fun j _ => 8 - (intOf j).toNat)
      case atStart => exact ⟨0, rfl, by omega, hN0, hB0⟩
      case round =>
        obtain ⟨n, rfl, hn, hno, hbw⟩ := hrel
        clear hN0 hB0
        rcases (by omega : n = 2 ∨ (n ≠ 2 ∧ n < 8) ∨ n = 8) with rfl | ⟨hn2, hn8⟩ | rfl
        · have hno' := Lib.hid (hno.out.step (.inl rfl))
          clear hno hsn hc
          go_wp2_with (fail)
          go_roundw
          case rel => exact ⟨2 + 1, rfl, by omega, hno', hbw⟩
          case measure => simp [intOf]
        · obtain ⟨c, hcc⟩ : ∃ c, codeTab[n]? = some c := ⟨_, List.getElem?_eq_getElem hn8⟩
          have hcd : codeTab.getD n 0 = c := by simp [List.getD, hcc]
          have cC := Lib.hid (RCode_calls n c hcc wr)
          have hn2' : ((n : Int) == 2) = false := by simp; omega
          by_cases hcr : c = (r : Int)
          · have hq : quoteRune r = [92, letTab.getD n 0] := by
              have := quoteRune_let ⟨n, hn8⟩ hn2
              simp only [hcd, hcr, Int.toNat_natCast] at this
              exact this
            rw [hq] at hsn
            subst hcr
            have hlet := fun w => run_let n hn8 w
            generalize letTab.getD n 0 = c8 at hsn hlet
            have hT' : Hid ((T ++ ⟨#[92]⟩ ++ ⟨#[c8]⟩).data.toList = 34 :: quoteRunes (L.take (k + 1))) := by
              show _ = _
              rw [hsn.out, ByteArray.data_append, Array.toList_append, ByteArray.data_append, Array.toList_append]
              simp
            clear hno hsn hcc hcd hc hq
            go_wp2_with (fail)
            with_reducible refine cC.out.mono ?_
            rintro e w2 ⟨rfl, hb2⟩
            have hbw2 := Lib.hid (hbw.out.trans (hb2.mono hbw.out.size))
            clear hb2 hbw cC
            have hl2 := hlet w2
            clear hlet
            go_wp2
            go_roundw
            case rel => exact ⟨_, k + 1, rfl, by go_num, by omega, hT', hbw2⟩
            case measure => simp only [intOf]; omega
          · have hno' := Lib.hid (hno.out.step (.inr (by rw [hcd]; exact hcr)))
            have hcr1 : (c == (r : Int)) = false := by simpa using hcr
            have hcr2 : (c != (r : Int)) = true := by simpa using hcr
            clear hno hsn hcc hcd hc hcr
            go_wp2_with (fail)
            with_reducible refine cC.out.mono ?_
            rintro e w2 ⟨rfl, hb2⟩
            have hbw2 := Lib.hid (hbw.out.trans (hb2.mono hbw.out.size))
            clear hb2 hbw cC
            go_wp2
            go_roundw
            case rel => exact ⟨n + 1, by go_num, by omega, hno', hbw2⟩
            case measure => simp only [intOf]; omega
        · have hq := quoteRune_no hno.out
          rw [hq] at hsn
          clear hno hc hq
          by_cases h32 : r < 32
          · rw [if_pos h32] at hsn
            have hT' : Hid ((T ++ ⟨#[92, 117, 48, 48]⟩ ++ ⟨#[hexd (r / 16)]⟩ ++ ⟨#[hexd (r % 16)]⟩).data.toList = 34 :: quoteRunes (L.take (k + 1))) := by
              show _ = _
              rw [hsn.out, ByteArray.data_append, Array.toList_append, ByteArray.data_append, Array.toList_append, ByteArray.data_append, Array.toList_append]
              simp
            have hx1 := fun w => run_hex (r / 16) (by omega) w
            have hx2 := fun w => run_hex (r % 16) (by omega) w
            have hq16 : (r : Int) / 16 = ((r / 16 : Nat) : Int) := by omega
            have hm16 : (r : Int) % 16 = ((r % 16 : Nat) : Int) := by omega
            have hq16' : (r : Int).tdiv 16 = ((r / 16 : Nat) : Int) := by rw [Int.tdiv_eq_ediv_of_nonneg (by omega)]; omega
            have hm16' : (r : Int).tmod 16 = ((r % 16 : Nat) : Int) := by rw [Int.tmod_eq_emod_of_nonneg (by omega)]; omega
            have hql : r / 16 < 2 := by omega
            have hml : r % 16 < 16 := by omega
            generalize hexd (r / 16) = e1 at *
            generalize hexd (r % 16) = e2 at *
            generalize r / 16 = q at *
            generalize r % 16 = m at *
            have hw1 : IntKind.i64.wrap ((q : Int) + 1) = (q : Int) + 1 := IntWalk.i64_in _ (by omega)
            have hw2 : IntKind.i64.wrap ((m : Int) + 1) = (m : Int) + 1 := IntWalk.i64_in _ (by omega)
            clear hsn
            go_wp2_with (fail)
            go_quiet (fail)
            have hbw2 := Lib.hid (below_drewN hbw.out nq)
            clear hx1 hx2 hq16 hm16 hq16' hm16' hw1 hw2 hbw
            go_wp2
            go_roundw
            case rel => exact ⟨_, k + 1, rfl, by go_num, by omega, hT', hbw2⟩
            case measure => simp only [intOf]; omega
          · rw [if_neg h32] at hsn
            have cB := Lib.hid (RBytes_calls r (by omega) (by omega) (by have := Hsc.out; omega) wr)
            have hel : (Lib.encodeRune (r : Int)).length ≤ 4 := encodeRune_len4 r
            obtain ⟨X, hX⟩ : ∃ X : ByteArray, (⟨(Lib.encodeRune (r : Int)).toArray⟩ : ByteArray) = X := ⟨_, rfl⟩
            have hXs : X.size ≤ 4 := by rw [← hX]; exact hel
            have hT' : Hid ((T ++ X).data.toList = 34 :: quoteRunes (L.take (k + 1))) := by
              show _ = _
              rw [hsn.out, ByteArray.data_append, Array.toList_append, ← hX]
            rw [hX] at cB
            clear hsn hel hX
            go_wp2_with (fail)
            with_reducible refine cB.out.mono ?_
            rintro e w2 ⟨rfl, hb2⟩
            have hbw2 := Lib.hid (hbw.out.trans (hb2.mono hbw.out.size))
            clear hb2 hbw cB
            go_wp2
            go_roundw
            case rel => exact ⟨_, k + 1, rfl, by go_num, by omega, hT', hbw2⟩
            case measure => simp only [intOf]; omega
    · obtain rfl : k = L.length := by omega
      have hT' := hT.out
      rw [List.take_length] at hT'
      have hE : (⟨(34 :: (quoteRunes L ++ [34])).toArray⟩ : ByteArray) = T ++ ⟨#[34]⟩ := by
        apply ByteArray.ext
        rw [ByteArray.data_append]
        apply Array.ext'
        rw [Array.toList_append, hT']
        simp
      have HE := Lib.hid hE
      clear hT hT' hE
      go_wp2
      go_ret2
      exact ⟨by rw [HE.out]; rfl, hb1'.out.trans (hbw.out.mono hb1'.out.size)⟩

end Go.Proofs.YtemceefalkfneaaGreatDoor

/- Why a value may not be: the reference's function, over an object's members. Condition: a bulk of at most 10^9. -/
namespace Go.Proofs.YtemceefalkfneaaGreatDoor
open Go.RowKit

set_option maxHeartbeats 4000000 in
theorem mayR_obj (k : Int) (b : Bool) (n : Int) (t : ByteArray) (o : List (ByteArray × Val)) (la oa : Option Addr) (lc oc : Nat) (d : Int) (w : World) (g off : Nat) (hoa : o = [] ∨ (oa = some ⟨g, off, none⟩ ∧ g < w.heap.size ∧ HoldsO w w.heap.size o g off))
    (hb : bulkO o + t.size ≤ 1000000000) (h0 : 0 ≤ d) (h64 : d ≤ 64) (IH : ∀ m ∈ o, MayRC m.2) (hodd : oddB k b n t 0 o.length = false) (hval : validB t = true) :
    Calls Tryz.prog 130 #[.agg #[.int .i64 k, .bool b, .int .i64 n, .string t, .slice la 0 lc, .slice oa o.length oc], .int .i64 d] w fun e w' => e = .returned (.int .i64 (mayO o none (d + 1))) ∧ Below w.heap.size w w' := by
  have hlen : o.length ≤ 1000000000 := by have := bulkO_len o; omega
  have h64' : ¬ (64 < d) := by omega
  have H : Hid (mayO (o.drop 0) (lastKey o 0) (d + 1) = mayO o none (d + 1)) := by rw [List.drop_zero]; exact rfl
  go_enter Tryz.func130, Tryz.ntmps130
  go_wp2_with (first | (go_at_call 198; refine (bare_calls2 hodd _).mono ?_; rintro e w1 ⟨rfl, hb1⟩; obtain ⟨hc1, hf1⟩ := bcell hb1; have hz1 := hb1.size; simp only [World.size_alloc] at hz1; have hbw1 : Below w.heap.size w w1 := ((Below.refl _ _).alloc (Nat.le_refl _) _).trans (hb1.mono (by simp)); have hbox1 : w1.heap[w.heap.size]? = some (.cells #[.int .i64 k, .bool b, .int .i64 n, .string t, .slice la 0 lc, .slice oa o.length oc] 52 (0, 0)) := (hb1.block _ (by simp)).trans (heap_alloc_new _ _)) | (go_at_call 82; refine (RValid_calls2 hval _ (by omega)).mono ?_; rintro e w2 ⟨rfl, rfl⟩))
  clear hb1 hodd hc1 hf1 hz1
  go_loopw [5] (fun i wx => i = .int .i64 0 ∧ wx = w1) (fun _ _ => 0)
  case atStart => exact ⟨rfl, rfl⟩
  case round =>
    obtain ⟨rfl, rfl⟩ := hrel
    have hbx0 : w.heap.size < wr.heap.size := (Array.getElem?_eq_some_iff.1 hbox1).1
    have b40 : wr.cell? ⟨w.heap.size, 4, none⟩ = some (.slice la 0 lc) := by rw [Lib.cell_of_heap hbox1]; rfl
    go_wp2
    clear b40 hbx0
    rename World => w1
    go_loopw [7, 8] (fun q i wr => ∃ j : Nat, ∃ lk : ByteArray, j ≤ o.length ∧ i = .int .i64 j ∧ q = .string lk ∧ (0 < j → lastKey o j = some lk) ∧ Hid (mayO (o.drop j) (lastKey o j) (d + 1) = mayO o none (d + 1)) ∧ Below w.heap.size w wr ∧ wr.heap[w.heap.size]? = some (.cells #[.int .i64 k, .bool b, .int .i64 n, .string t, .slice la 0 lc, .slice oa o.length oc] 52 (0, 0))) (fun _ i _ => o.length - (intOf i).toNat)
    case atStart => exact ⟨0, ByteArray.empty, Nat.zero_le _, rfl, rfl, fun h => absurd h (by omega), H, hbw1, hbox1⟩
    case round =>
      obtain ⟨j, q, hj, rfl, rfl, hlk, hm, hbw, hbox⟩ := hrel
      clear H hbw1 hbox1
      have hbx : w.heap.size < wr.heap.size := (Array.getElem?_eq_some_iff.1 hbox).1
      have b5 : wr.cell? ⟨w.heap.size, 5, none⟩ = some (.slice oa o.length oc) := by rw [Lib.cell_of_heap hbox]; rfl
      have hz := hbw.size
      by_cases hlt : j < o.length
      · obtain ⟨rfl, hg, hL⟩ : oa = some ⟨g, off, none⟩ ∧ g < w.heap.size ∧ HoldsO w w.heap.size o g off := by
          rcases hoa with rfl | h
          · simp at hlt
          · exact h
        obtain ⟨⟨key, v⟩, hv⟩ : ∃ v, o[j]? = some v := ⟨_, List.getElem?_eq_getElem hlt⟩
        have hdrop : o.drop j = (key, v) :: o.drop (j + 1) := drop_of_get hv
        have hmem : (key, v) ∈ o := List.mem_of_getElem? hv
        have hbv := bulkO_mem hmem
        simp only at hbv
        have IHv := Lib.hid (IH (key, v) hmem)
        have hlast : lastKey o (j + 1) = some key := by simp [lastKey, hv]
        have Hlast := Lib.hid hlast
        have hm' := hm.out
        rw [hdrop] at hm'
        simp only [mayO, mayP, ← hlast] at hm'
        clear hm hdrop hmem IH hlast
        have hLr := hL.below hg hbw
        have hgr : g < wr.heap.size := by omega
        obtain ⟨k', b', n', t', l', o'⟩ := v
        obtain ⟨la', lc', oa', oc', hvs, c0, c1, c2, c3, c4, c5, c6⟩ := hLr.seven hv
        clear hL hLr hv hoa
        by_cases hval2 : validB key = true
        · rw [hval2] at hm'
          simp only [if_true] at hm'
          by_cases hjp : 0 < j
          · rw [hlk hjp] at hm'
            simp only at hm'
            have hgd : decide (0 < j) = true := by simpa using hjp
            clear hlk
            by_cases hle : leB key q = true
            · rw [if_pos hle] at hm'
              unfold leB at hle
              have Hm := Lib.hid hm'
              clear hm'
              go_wp2_with (go_at_call 82; refine (RValid_calls2 hval2 _ (by omega)).mono ?_; rintro e wv ⟨rfl, rfl⟩)
              go_ret
              exact ⟨by rw [← Hm.out]; rfl, hbw⟩
            · rw [if_neg hle] at hm'
              have hle' : (Op.bytesLess key.toList q.toList || key.toList == q.toList) = false := by simpa [leB] using hle
              clear hle
              obtain ⟨m, hmv⟩ : ∃ m, mayV (.mk k' b' n' t' l' o') (d + 1) = m := ⟨_, rfl⟩
              rw [hmv] at hm'
              have Hmv := Lib.hid hmv
              clear hmv
              by_cases hm0 : m = 0
              · rw [if_pos hm0] at hm'
                subst hm0
                have Hm := Lib.hid hm'
                clear hm'
                go_wp2_with (first | (go_at_call 82; refine (RValid_calls2 hval2 _ (by omega)).mono ?_; rintro e wv ⟨rfl, rfl⟩) | (go_at_call 130; refine (IHv.out _ (d + 1) _ (HoldsV.more (by omega) _ _ hvs) (by omega) (by omega) (by omega)).mono ?_; rintro e w3 ⟨he, hb3⟩; rw [Hmv.out] at he; subst he; have hbw3 : Below w.heap.size w w3 := hbw.trans (hb3.mono hz); have hbox3 := (hb3.block _ hbx).trans hbox))
                go_roundw
                case rel => exact ⟨j + 1, key, by omega, by go_num, rfl, fun _ => Hlast.out, Hm, hbw3, hbox3⟩
                case measure => simp [intOf]; omega
              · rw [if_neg hm0] at hm'
                have hm1 : (m == 0) = false := by simpa using hm0
                have hm2 : (m != 0) = true := by simpa using hm0
                have Hm := Lib.hid hm'
                clear hm'
                go_wp2_with (first | (go_at_call 82; refine (RValid_calls2 hval2 _ (by omega)).mono ?_; rintro e wv ⟨rfl, rfl⟩) | (go_at_call 130; refine (IHv.out _ (d + 1) _ (HoldsV.more (by omega) _ _ hvs) (by omega) (by omega) (by omega)).mono ?_; rintro e w3 ⟨he, hb3⟩; rw [Hmv.out] at he; subst he; have hbw3 : Below w.heap.size w w3 := hbw.trans (hb3.mono hz); have hbox3 := (hb3.block _ hbx).trans hbox))
                go_ret
                exact ⟨by rw [← Hm.out]; rfl, hbw3⟩
          · have hlk0 : lastKey o j = none := by
              obtain rfl : j = 0 := by omega
              rfl
            rw [hlk0] at hm'
            simp only at hm'
            have hgd : decide (0 < j) = false := by simpa using hjp
            have hk0 : j ≤ 0 := by omega
            clear hlk hlk0
            obtain ⟨m, hmv⟩ : ∃ m, mayV (.mk k' b' n' t' l' o') (d + 1) = m := ⟨_, rfl⟩
            rw [hmv] at hm'
            have Hmv := Lib.hid hmv
            clear hmv
            by_cases hm0 : m = 0
            · rw [if_pos hm0] at hm'
              subst hm0
              have Hm := Lib.hid hm'
              clear hm'
              go_wp2_with (first | (go_at_call 82; refine (RValid_calls2 hval2 _ (by omega)).mono ?_; rintro e wv ⟨rfl, rfl⟩) | (go_at_call 130; refine (IHv.out _ (d + 1) _ (HoldsV.more (by omega) _ _ hvs) (by omega) (by omega) (by omega)).mono ?_; rintro e w3 ⟨he, hb3⟩; rw [Hmv.out] at he; subst he; have hbw3 : Below w.heap.size w w3 := hbw.trans (hb3.mono hz); have hbox3 := (hb3.block _ hbx).trans hbox))
              go_roundw
              case rel => exact ⟨j + 1, key, by omega, by go_num, rfl, fun _ => Hlast.out, Hm, hbw3, hbox3⟩
              case measure => simp [intOf]; omega
            · rw [if_neg hm0] at hm'
              have hm1 : (m == 0) = false := by simpa using hm0
              have hm2 : (m != 0) = true := by simpa using hm0
              have Hm := Lib.hid hm'
              clear hm'
              go_wp2_with (first | (go_at_call 82; refine (RValid_calls2 hval2 _ (by omega)).mono ?_; rintro e wv ⟨rfl, rfl⟩) | (go_at_call 130; refine (IHv.out _ (d + 1) _ (HoldsV.more (by omega) _ _ hvs) (by omega) (by omega) (by omega)).mono ?_; rintro e w3 ⟨he, hb3⟩; rw [Hmv.out] at he; subst he; have hbw3 : Below w.heap.size w w3 := hbw.trans (hb3.mono hz); have hbox3 := (hb3.block _ hbx).trans hbox))
              go_ret
              exact ⟨by rw [← Hm.out]; rfl, hbw3⟩
        · have hvf : validB key = false := by simpa using hval2
          rw [hvf] at hm'
          have Hm := Lib.hid hm'
          clear hm' hval2 hlk
          go_wp2_with (go_at_call 82; refine (RValid_calls2 hvf _ (by omega)).mono ?_; rintro e wv ⟨rfl, rfl⟩)
          go_ret
          exact ⟨by rw [← Hm.out]; simp, hbw⟩
      · obtain rfl : j = o.length := by omega
        have hm' := hm.out
        rw [List.drop_length] at hm'
        have Hm := Lib.hid hm'
        clear hm hm' hlk hoa IH
        go_wp2
        go_ret
        exact ⟨by rw [← Hm.out]; rfl, hbw⟩

end Go.Proofs.YtemceefalkfneaaGreatDoor
