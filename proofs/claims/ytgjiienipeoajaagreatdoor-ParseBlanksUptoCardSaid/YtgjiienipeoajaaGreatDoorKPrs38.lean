/- Parts, joined: parse.reader.key. Condition: a text of at most 10^6 bytes. -/
import Derived.Test.YtgjiienipeoajaaGreatDoorProg
import Derived.Test.YtgjiienipeoajaaGreatDoorKPrs32
/- parse.reader.key. Condition: a text of at most 10^6 bytes. -/
namespace Go.Proofs.YtgjiienipeoajaaGreatDoor
open Go Go.RowKit

abbrev Tseen : TypeId := 131
theorem mkey_seen : MKey Tryz.prog 9 Value.string := mkey_string Tryz.underlying9
/-- The keys that were seen. -/
def keysM (acc : List (ByteArray × Val)) : List (ByteArray × Value) := acc.map fun m => (m.1, Value.agg #[])
theorem hasK_cons (a : ByteArray) (m : ByteArray × Val) (r : List (ByteArray × Val)) : hasK a (m :: r) = (decide (m.1 = a) || hasK a r) := rfl
theorem findM_keys (a : ByteArray) : ∀ acc : List (ByteArray × Val), findM a (keysM acc) = if hasK a acc = true then some (.agg #[]) else none
  | [] => rfl
  | m :: r => by
    have ih := findM_keys a r
    show (if a = m.1 then some (Value.agg #[]) else findM a (keysM r)) = _
    rw [hasK_cons]
    by_cases h : a = m.1
    · rw [if_pos h, decide_eq_true h.symm, Bool.true_or, if_pos rfl]
    · rw [if_neg h, ih, decide_eq_false (fun e => h e.symm), Bool.false_or]
/-- What 'key' leaves. -/
def KPost (R g G : Nat) (s : ByteArray) (acc : List (ByteArray × Val)) (w : World) (r : Rd (List UInt8)) (p : Nat) (e : Ending) (w' : World) : Prop := match r with
  | .bad c q => e = faultE c q ∧ w.grownBy w' (some R)
  | .ok k q => if hasK ⟨k.toArray⟩ acc = true then e = faultE 8 p ∧ w.grownBy w' (some R)
    else e = .returned (.string ⟨k.toArray⟩) ∧ ∃ w1, RdTo R g s q w w1 ∧ w1.grownBy w' (some G) ∧ MapAt Value.string w' G (keysM acc ++ [(⟨k.toArray⟩, .agg #[])])
theorem MapAt.grown {α : Type} {f : α → Value} {w w' : World} {g : Nat} {kv : List (α × Value)} {r : Option Nat} (h : MapAt f w g kv) (t : w.grownBy w' r) (hg : some g ≠ r) : MapAt f w' g kv := h.keep (t.block g h.lt hg)
theorem zero_seen (w : World) : (zeroValue 150).run Tryz.prog w = .ok (.agg #[]) w := by kernel_rfl
set_option maxRecDepth 100000 in
set_option maxHeartbeats 4000000 in
theorem rdkey_calls (R g G : Nat) (s : ByteArray) (acc : List (ByteArray × Val)) (k : Nat) (w : World) (hT : ∀ W, w.grownBy W (some R) → Tabs W) (hs : s.size ≤ 1000000000) (hk : k ≤ s.size) (h : RdB w R g s k) (hM : MapAt Value.string w G (keysM acc)) (hG : G ≠ R) :
    Calls Tryz.prog 91 #[.pointer (some ⟨R, 0, none⟩), .map (some G)] w (KPost R g G s acc w (unqAt s.data.toList (past s.data.toList k)) (past s.data.toList k)) := by
  have hS := skip_calls R g s k w hs hk h
  have hp := past_size hk
  generalize past s.data.toList k = p at hS hp ⊢
  have hne : some G ≠ some R := fun e => hG (Option.some.inj e)
  cases hr : unqAt s.data.toList p with
  | bad c q =>
    have HS := Lib.hid hS
    have HT := Lib.hid hT
    have HM := Lib.hid hM
    have Hr := Lib.hid hr
    clear hS hT hM hr
    clear h
    go_enter Tryz.func91, Tryz.ntmps91
    go_wp2_with (fail)
    with_reducible refine (HS.out).mono ?_
    rintro e w1 ⟨rfl, h1⟩
    obtain ⟨c0, c1, _, f1, hR⟩ := h1.2.cells
    have hQ := rdquote_calls R g s p w1 (HT.out w1 h1.1) hs hp h1.2
    rw [Hr.out] at hQ
    have H1 := Lib.hid h1
    have HQ := Lib.hid hQ
    clear h1 hQ
    go_wp2_with (fail)
    with_reducible refine (HQ.out).mono ?_
    rintro e w2 ⟨rfl, h2⟩
    exact ⟨rfl, rfl, grownBy_trans H1.out.1 h2⟩
  | ok kk q =>
    unfold KPost
    dsimp only
    obtain ⟨KK, hKK⟩ : ∃ K : ByteArray, (⟨kk.toArray⟩ : ByteArray) = K := ⟨_, rfl⟩
    rw [hKK]
    have hF := findM_keys KK acc
    cases hh : hasK KK acc with
    | true =>
      rw [hh, if_pos rfl] at hF
      simp only [if_true]
      have HS := Lib.hid hS
      have HT := Lib.hid hT
      have HM := Lib.hid hM
      have Hr := Lib.hid hr
      have HF := Lib.hid hF
      have HKK := Lib.hid hKK
      clear hS hT hM hr hF hKK
      clear h
      go_enter Tryz.func91, Tryz.ntmps91
      go_wp2_with (fail)
      with_reducible refine (HS.out).mono ?_
      rintro e w1 ⟨rfl, h1⟩
      obtain ⟨c0, c1, _, f1, hR⟩ := h1.2.cells
      have hQ := rdquote_calls R g s p w1 (HT.out w1 h1.1) hs hp h1.2
      rw [Hr.out] at hQ
      have H1 := Lib.hid h1
      have HQ := Lib.hid hQ
      clear h1 hQ
      go_wp2_with (fail)
      with_reducible refine (HQ.out).mono ?_
      rintro e w2 ⟨e1, h2⟩
      rw [HKK.out] at e1
      subst e1
      have hM2 := (HM.out.grown H1.out.1 hne).grown h2.1 hne
      have hrun := run_lookM mkey_seen Tryz.underlying131 hM2 KK zero_seen true
      rw [HF.out] at hrun
      simp only [Option.getD_some, Option.isSome_some, if_true] at hrun
      have h12 := grownBy_trans H1.out.1 h2.1
      have HM2 := Lib.hid hM2
      have H12 := Lib.hid h12
      clear hM2 h12
      clear h2
      go_wp2_with (fail)
      with_reducible refine (wrong_calls _ _ _ _).mono ?_
      rintro e w3 ⟨rfl, rfl⟩
      exact ⟨rfl, rfl, grownBy_alloc H12.out _⟩
    | false =>
      rw [hh, if_neg (by decide)] at hF
      simp only [Bool.false_eq_true, if_false]
      have HS := Lib.hid hS
      have HT := Lib.hid hT
      have HM := Lib.hid hM
      have Hr := Lib.hid hr
      have HF := Lib.hid hF
      have HKK := Lib.hid hKK
      clear hS hT hM hr hF hKK
      clear h
      go_enter Tryz.func91, Tryz.ntmps91
      go_wp2_with (fail)
      with_reducible refine (HS.out).mono ?_
      rintro e w1 ⟨rfl, h1⟩
      obtain ⟨c0, c1, _, f1, hR⟩ := h1.2.cells
      have hQ := rdquote_calls R g s p w1 (HT.out w1 h1.1) hs hp h1.2
      rw [Hr.out] at hQ
      have H1 := Lib.hid h1
      have HQ := Lib.hid hQ
      clear h1 hQ
      go_wp2_with (fail)
      with_reducible refine (HQ.out).mono ?_
      rintro e w2 ⟨e1, h2⟩
      rw [HKK.out] at e1
      subst e1
      have hM2 := (HM.out.grown H1.out.1 hne).grown h2.1 hne
      have hrun := run_lookM mkey_seen Tryz.underlying131 hM2 KK zero_seen true
      rw [HF.out] at hrun
      simp only [Option.getD_none, Option.isSome_none, if_true] at hrun
      obtain ⟨w4, hrun4, hM4, hg4, _⟩ := run_insertM mkey_seen Tryz.underlying131 (hM2.alloc (.cells #[] 150)) HF.out (.agg #[])
      have h12 := (H1.out.trans h2).alloc (.cells #[] 150)
      have HG := Lib.hid (And.intro h12 (And.intro hg4 hM4))
      clear h2 hM2 hM4 hg4 h12
      go_wp2
      go_ret
      exact ⟨rfl, _, HG.out.1, HG.out.2.1, HG.out.2.2⟩
end Go.Proofs.YtgjiienipeoajaaGreatDoor
