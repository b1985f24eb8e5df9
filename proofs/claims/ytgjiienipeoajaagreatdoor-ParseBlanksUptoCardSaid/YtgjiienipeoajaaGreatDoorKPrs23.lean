/- Parts, joined: Small laws of worlds and of comparisons. Plain. No condition. commonplaceref02.Copy: what its contract says. No condition. A value parameter in its box, and the calls on it. Condition: a bulk of at most 10^8. parse.reader: comes, word, null, no, yes. Condition: a text of at most 10^9 bytes. parse.newReader: a reader at the beginning of a text. No condition. Printed by mknewr.py. -/
import Derived.WalkKit
import Derived.Below
import Derived.Lib.Hide
import Derived.Test.YtgjiienipeoajaaGreatDoorProg
import Derived.Test.YtgjiienipeoajaaGreatDoorShelf
import Derived.LoopTactic
import Derived.Test.YtgjiienipeoajaaGreatDoorKPrs7
import Derived.Test.YtgjiienipeoajaaGreatDoorKPrs11
import Derived.Test.YtgjiienipeoajaaGreatDoorKPrs18
import Derived.Test.YtgjiienipeoajaaGreatDoorKPrs20
import Derived.Test.YtgjiienipeoajaaGreatDoorKPrs21
/- Small laws of worlds and of comparisons. Plain. No condition. -/
namespace Go.Proofs.YtgjiienipeoajaaGreatDoor
open Go.RowKit

theorem alloc_below (w : World) (o : Obj) : Below w.heap.size w (w.alloc o) := (Below.refl _ _).alloc (Nat.le_refl _) _
theorem beq_cast (n : Nat) : ((n : Int) == 0) = decide (n = 0) := by rw [Bool.eq_iff_iff]; simp
theorem bne_dec (a b : Int) : (a != b) = decide (a ≠ b) := by rw [Bool.eq_iff_iff]; simp
theorem beq_dec (a b : Int) : (a == b) = decide (a = b) := by rw [Bool.eq_iff_iff]; simp
theorem bcellM {W w1 : World} (hb : Below W.heap.size W w1) : (∀ b o, b < W.heap.size → w1.cell? ⟨b, o, none⟩ = W.cell? ⟨b, o, none⟩) ∧ (∀ b o, b < W.heap.size → w1.frozen? ⟨b, o, none⟩ = W.frozen? ⟨b, o, none⟩) :=
  ⟨fun b o h => hb.cell (p := ⟨b, o, none⟩) h, fun b o h => hb.frozen (p := ⟨b, o, none⟩) h⟩
end Go.Proofs.YtgjiienipeoajaaGreatDoor

/- commonplaceref02.Copy: what its contract says. No condition. -/
namespace Go.Proofs.YtgjiienipeoajaaGreatDoor
open Go.RowKit

/-- What Copy does with a value. -/
def CopyC (v : Val) : Prop := ∀ (cs : List Value) (w : World), HoldsV w w.heap.size v cs → v.bulk ≤ 100000000 →
    Calls Tryz.prog 40 #[.agg cs.toArray] w fun e w' => (∃ cs', e = .returned (.agg (cs' : List Value).toArray) ∧ cs'.length = 6 ∧ FreshV w w' v cs') ∧ Below w.heap.size w w'
end Go.Proofs.YtgjiienipeoajaaGreatDoor

/- A value parameter in its box, and the calls on it. Condition: a bulk of at most 10^8. -/
namespace Go.Proofs.YtgjiienipeoajaaGreatDoor
open Go.RowKit

theorem textS_ok' {v : Val} (h : mayV v 1 = 0) : textS v = ⟨(textV v).toArray⟩ := by unfold textS; rw [if_pos h]
theorem textS_no' {v : Val} (h : mayV v 1 ≠ 0) : textS v = ⟨#[]⟩ := by unfold textS; rw [if_neg h]

/-- A world in which block g is the box of a value parameter. -/
def Boxd (w : World) (g : Nat) (v : Val) (c : List Value) (w' : World) : Prop :=
  Below w.heap.size w w' ∧ w'.heap[g]? = some (.cells c.toArray 26 (0, 0)) ∧ Tabs w' ∧ HoldsV w' w'.heap.size v c

theorem Boxd.step {w w' w'' : World} {g : Nat} {v : Val} {c : List Value} (h : Boxd w g v c w') (hb : Below w'.heap.size w' w'') : Boxd w g v c w'' := by
  obtain ⟨h1, h2, h3, h4⟩ := h
  exact ⟨h1.trans (hb.mono h1.size), (hb.block _ (Array.getElem?_eq_some_iff.1 h2).1).trans h2, h3.below hb, HoldsV.more hb.size _ _ (h4.below hb)⟩
theorem Boxd.start {w : World} {v : Val} {c : List Value} (hT : Tabs w) (hV : HoldsV w w.heap.size v c) : Boxd w w.heap.size v c (w.alloc (.cells c.toArray 26)) := by
  have hb : Below w.heap.size w (w.alloc (.cells c.toArray 26)) := (Below.refl _ _).alloc (Nat.le_refl _) _
  exact ⟨hb, heap_alloc_new _ _, hT.below hb, HoldsV.more hb.size _ _ (hV.below hb)⟩
theorem Boxd.cells {w w' : World} {g : Nat} {v : Val} {k : Int} {b : Bool} {n : Int} {t : ByteArray} {x y : Value} (h : Boxd w g v [.int .i64 k, .bool b, .int .i64 n, .string t, x, y] w') :
    w'.cell? ⟨g, 0, none⟩ = some (.int .i64 k) ∧ w'.cell? ⟨g, 1, none⟩ = some (.bool b) ∧ w'.cell? ⟨g, 2, none⟩ = some (.int .i64 n) ∧ w'.cell? ⟨g, 3, none⟩ = some (.string t) ∧ w'.cell? ⟨g, 4, none⟩ = some x ∧ w'.cell? ⟨g, 5, none⟩ = some y :=
  box_cells h.2.1
theorem Boxd.tabs {w w' : World} {g : Nat} {v : Val} {c : List Value} (h : Boxd w g v c w') : Tabs w' := h.2.2.1
theorem Boxd.below {w w' : World} {g : Nat} {v : Val} {c : List Value} (h : Boxd w g v c w') : Below w.heap.size w w' := h.1

end Go.Proofs.YtgjiienipeoajaaGreatDoor

/- parse.reader: comes, word, null, no, yes. Condition: a text of at most 10^9 bytes. -/
namespace Go.Proofs.YtgjiienipeoajaaGreatDoor
open Go Go.RowKit

/-- What a reader of no value leaves. -/
def UPost (R g : Nat) (s : ByteArray) (w : World) (r : Rd Val) (e : Ending) (w' : World) : Prop := match r with
  | .ok _ q => e = .returned (.tuple #[]) ∧ RdTo R g s q w w'
  | .bad c q => e = faultE c q ∧ w.grownBy w' (some R)
set_option maxRecDepth 100000 in
set_option maxHeartbeats 4000000 in
theorem word_calls (R g : Nat) (s t : ByteArray) (k : Nat) (v : Val) (w : World) (hs : s.size ≤ 1000000000) (hk : k ≤ s.size) (ht : t.size ≤ 100) (h : RdB w R g s k) :
    Calls Tryz.prog 88 #[.pointer (some ⟨R, 0, none⟩), .string t] w (UPost R g s w (wordAt s.data.toList k t.data.toList v)) := by
  have hext : (s.extract k s.size).data.toList = s.data.toList.drop k := by
    rw [Lib.extract_data]
    exact List.take_of_length_le (by rw [List.length_drop, size_toList]; omega)
  have hH := fun W => Tryz.strings_HasPrefix (s.extract k s.size) t W
  rw [hext] at hH
  have hB : Lib.hasPrefix (s.data.toList.drop k) t.data.toList = t.data.toList.isPrefixOf (s.data.toList.drop k) := rfl
  rw [hB] at hH
  clear hB hext
  have i0 : (0 : Int) ≤ (k : Int) := by omega
  have i1 : (k : Int) ≤ (s.size : Int) := by omega
  obtain ⟨c0, c1, _, f1, hR⟩ := h.cells
  have H := Lib.hid h
  clear h
  unfold wordAt
  cases hp : t.data.toList.isPrefixOf (s.data.toList.drop k) with
  | true =>
    rw [hp] at hH
    rw [if_pos rfl, size_toList]
    have hle : k + t.size ≤ s.size := by
      have := (List.isPrefixOf_iff_prefix.1 hp).length_le
      rw [List.length_drop, size_toList, size_toList] at this; omega
    clear hp
    have HH := Lib.hid hH
    clear hH
    go_enter Tryz.func88, Tryz.ntmps88
    go_wp2
    go_quiet ((go_at_call 47; exact Calls.quiet_of_same (HH.out _)))
    go_wp2
    go_end0
    exact ⟨rfl, ((RdTo.refl H.out).drewN _).set _⟩
  | false =>
    rw [hp] at hH
    rw [if_neg (by decide)]
    clear hp
    have hW := fun W => wrong_calls (.pointer (some ⟨R, 0, none⟩)) 4 k W
    have HH := Lib.hid hH
    have HW := Lib.hid hW
    clear hH hW
    go_enter Tryz.func88, Tryz.ntmps88
    go_wp2
    go_quiet ((go_at_call 47; exact Calls.quiet_of_same (HH.out _)))
    go_wp2_with (fail)
    with_reducible refine (HW.out _).mono ?_
    rintro e w1 ⟨rfl, rfl⟩
    exact ⟨rfl, rfl, grownBy_drewN (World.grownBy.refl _ _) _⟩
end Go.Proofs.YtgjiienipeoajaaGreatDoor

/- parse.newReader: a reader at the beginning of a text. No condition. Printed by mknewr.py. -/
namespace Go.Proofs.YtgjiienipeoajaaGreatDoor
open Go Go.RowKit

abbrev Tkinds : TypeId := 65
theorem mkey_kinds : MKey Tryz.prog 5 (Value.int .u8) := mkey_int Tryz.underlying5
section
variable {α : Type} [DecidableEq α] {f : α → Value} {P : Program} {kt et t : TypeId} {w w' : World} {g : Nat} {kv : List (α × Value)}
theorem findM_not {a k : α} {v : Value} {r : List (α × Value)} (h : a ≠ k) (hr : findM a r = none) : findM a ((k, v) :: r) = none := by
  simp only [findM, if_neg h]; exact hr
theorem wp_updM {op : Oper} {a : Act} {K : Act → World → Prop} {Q : Exit → Act → World → Prop} (t : TypeId) (m x u : Operand) (ho : op.op = .mapUpdate t m x u)
    (Ky : MKey P kt f) (ht : P.underlying t = some (.map kt et)) (hm : a.eval m = .map (some g)) (h : MapAt f w g kv) {k : α} {v : Value} (hx : a.eval x = f k) (hv : a.eval u = v) (hn : findM k kv = none)
    (hK : ∀ w', MapAt f w' g (kv ++ [(k, v)]) → w.grownBy w' (some g) → w'.heap.size = w.heap.size → K (a.put op.dst undef) w') : op.wp P a w K Q := by
  obtain ⟨w', hrun, r1, r2, r3⟩ := run_insertM Ky ht h hn v
  unfold Oper.wp
  simp [execOp, ho, hm, hx, hv, hrun, Result.andThen]
  exact hK w' r1 r2 r3
end
/-- A reader in the making: m: its map's variable, kv: the map. -/
structure NR (s : ByteArray) (w wr : World) (m : Option Nat) (kv : List (Int × Value)) : Prop where
  below : Below w.heap.size w wr
  map : MapAt (Value.int .u8) wr (w.heap.size + 1) kv
  blk : Blk wr w.heap.size 67 #[.string s, .int .i64 0, .map m]
theorem NR.ins {s : ByteArray} {w wr w' : World} {m : Option Nat} {kv kv' : List (Int × Value)} (h : NR s w wr m kv) (hM : MapAt (Value.int .u8) w' (w.heap.size + 1) kv') (hg : wr.grownBy w' (some (w.heap.size + 1))) : NR s w w' m kv' :=
  ⟨h.below.grown hg h.below.size fun k e => by have := Option.some.inj e; omega, hM, h.blk.grown hg (by intro e; have := Option.some.inj e; omega)⟩
theorem NR.set {s : ByteArray} {w wr : World} {m : Option Nat} {kv : List (Int × Value)} (h : NR s w wr m kv) : NR s w (wr.setCell ⟨w.heap.size, 2, none⟩ (.map (some (w.heap.size + 1)))) (some (w.heap.size + 1)) kv :=
  ⟨h.below.setCell (Nat.le_refl _) _, h.map.setCell (by show w.heap.size + 1 ≠ w.heap.size; omega) _, by have := h.blk.set_ 2 (.map (some (w.heap.size + 1))); exact this⟩
theorem KV_next (R : Nat) : ∀ j : Nat, j < 10 → findM (48 + (j : Int)) ((KV R).take (7 + j)) = none ∧ (KV R).take (7 + j) ++ [(48 + (j : Int), Value.func (.func 58) #[.pointer (some ⟨R, 0, none⟩)] #[])] = (KV R).take (7 + (j + 1)) := by
  intro j hj
  match j, hj with
  | 0, _ | 1, _ | 2, _ | 3, _ | 4, _ | 5, _ | 6, _ | 7, _ | 8, _ | 9, _ => exact ⟨by simp [KV, findM], rfl⟩
set_option maxRecDepth 100000 in
set_option maxHeartbeats 8000000 in
theorem newReader_calls (s : ByteArray) (w : World) : Calls Tryz.prog 28 #[.string s] w fun e w' => e = .returned (.pointer (some ⟨w.heap.size, 0, none⟩)) ∧ NR s w w' (some (w.heap.size + 1)) (KV w.heap.size) := by
  have hmm := fun W => run_makeMap (P := Tryz.prog) Tkinds W
  have hS0 : NR s w ((w.alloc (.cells #[.string s, .int .i64 0, .map none] 67)).alloc (.map #[] 0)) none [] := by
    have := MapAt.new (f := Value.int .u8) (w.alloc (.cells #[.string s, .int .i64 0, .map none] 67))
    rw [World.size_alloc] at this
    exact ⟨((Below.refl _ _).alloc (Nat.le_refl _) _).alloc (by simp) _, this, (Blk.new _ _ _).alloc _⟩
  have HS0 := Lib.hid hS0
  clear hS0
  go_enter Tryz.func28, Tryz.ntmps28
  go_upto_region 2 with (fail)
  go_upto_region 3 with (first
    | (((with_reducible refine wpList_insertM rfl (.tmp 9) _ _ Tkinds rfl mkey_kinds Tryz.underlying65 rfl HS0.out.map (k := 110) rfl rfl rfl ?_)); intro w1 hM hg hs; have HS1 := Lib.hid (HS0.out.ins hM hg); (have r2 := HS1.out.blk.cell 2); (have f2 := HS1.out.blk.frozen 2); (have hlt := HS1.out.blk.lt); clear hM hg hs HS0)
    | (((with_reducible refine wpList_insertM rfl (.tmp 9) _ _ Tkinds rfl mkey_kinds Tryz.underlying65 rfl HS1.out.map (k := 102) rfl rfl (findM_not (by decide) rfl) ?_)); intro w2 hM hg hs; have HS2 := Lib.hid (HS1.out.ins hM hg); (have r2 := HS2.out.blk.cell 2); (have f2 := HS2.out.blk.frozen 2); (have hlt := HS2.out.blk.lt); clear hM hg hs HS1)
    | (((with_reducible refine wpList_insertM rfl (.tmp 9) _ _ Tkinds rfl mkey_kinds Tryz.underlying65 rfl HS2.out.map (k := 116) rfl rfl (findM_not (by decide) (findM_not (by decide) rfl)) ?_)); intro w3 hM hg hs; have HS3 := Lib.hid (HS2.out.ins hM hg); (have r2 := HS3.out.blk.cell 2); (have f2 := HS3.out.blk.frozen 2); (have hlt := HS3.out.blk.lt); clear hM hg hs HS2)
    | (((with_reducible refine wpList_insertM rfl (.tmp 9) _ _ Tkinds rfl mkey_kinds Tryz.underlying65 rfl HS3.out.map (k := 34) rfl rfl (findM_not (by decide) (findM_not (by decide) (findM_not (by decide) rfl))) ?_)); intro w4 hM hg hs; have HS4 := Lib.hid (HS3.out.ins hM hg); (have r2 := HS4.out.blk.cell 2); (have f2 := HS4.out.blk.frozen 2); (have hlt := HS4.out.blk.lt); clear hM hg hs HS3)
    | (((with_reducible refine wpList_insertM rfl (.tmp 9) _ _ Tkinds rfl mkey_kinds Tryz.underlying65 rfl HS4.out.map (k := 91) rfl rfl (findM_not (by decide) (findM_not (by decide) (findM_not (by decide) (findM_not (by decide) rfl)))) ?_)); intro w5 hM hg hs; have HS5 := Lib.hid (HS4.out.ins hM hg); (have r2 := HS5.out.blk.cell 2); (have f2 := HS5.out.blk.frozen 2); (have hlt := HS5.out.blk.lt); clear hM hg hs HS4)
    | (((with_reducible refine wpList_insertM rfl (.tmp 9) _ _ Tkinds rfl mkey_kinds Tryz.underlying65 rfl HS5.out.map (k := 123) rfl rfl (findM_not (by decide) (findM_not (by decide) (findM_not (by decide) (findM_not (by decide) (findM_not (by decide) rfl))))) ?_)); intro w6 hM hg hs; have HS6 := Lib.hid (HS5.out.ins hM hg); (have r2 := HS6.out.blk.cell 2); (have f2 := HS6.out.blk.frozen 2); (have hlt := HS6.out.blk.lt); clear hM hg hs HS5)
    | (((with_reducible refine wpList_insertM rfl (.tmp 9) _ _ Tkinds rfl mkey_kinds Tryz.underlying65 rfl HS6.out.map (k := 45) rfl rfl (findM_not (by decide) (findM_not (by decide) (findM_not (by decide) (findM_not (by decide) (findM_not (by decide) (findM_not (by decide) rfl)))))) ?_)); intro w7 hM hg hs; have HS7 := Lib.hid (HS6.out.ins hM hg); (have r2 := HS7.out.blk.cell 2); (have f2 := HS7.out.blk.frozen 2); (have hlt := HS7.out.blk.lt); clear hM hg hs HS6))
  have h0 : NR s w (w7.setCell ⟨w.heap.size, 2, none⟩ (.map (some (w.heap.size + 1)))) (some (w.heap.size + 1)) ((KV w.heap.size).take (7 + 0)) := HS7.out.set
  generalize w7.setCell ⟨w.heap.size, 2, none⟩ (.map (some (w.heap.size + 1))) = w8 at h0 ⊢
  clear r2 f2 hlt HS7
  have H0 := Lib.hid h0
  clear h0
  go_wp2
  go_loopw [4] (fun i wr => ∃ j : Nat, i = .int .u8 (48 + (j : Int)) ∧ j ≤ 10 ∧ Hid (NR s w wr (some (w.heap.size + 1)) ((KV w.heap.size).take (7 + j)))) (fun i _ => 58 - (intOf i).toNat)
  case atStart => exact ⟨0, rfl, by omega, H0⟩
  case round =>
    obtain ⟨j, rfl, hj, hh⟩ := hrel
    clear H0
    have c2 := hh.out.blk.cell 2
    have hlt := hh.out.blk.lt
    by_cases hlt' : j < 10
    · obtain ⟨hn, hk⟩ := KV_next w.heap.size j hlt'
      have l1 : decide ((48 : Int) + (j : Int) ≤ 57) = true := decide_eq_true (by omega)
      obtain ⟨w9, hrun, hM, hg, _⟩ := run_insertM mkey_kinds Tryz.underlying65 hh.out.map hn (Value.func (.func 58) #[.pointer (some ⟨w.heap.size, 0, none⟩)] #[])
      rw [hk] at hM
      have HN := Lib.hid (hh.out.ins hM hg)
      clear hM hg hh hn hk
      go_wp2
      go_roundw
      case rel => exact ⟨j + 1, by go_num, by omega, HN⟩
      case measure => simp [intOf]; omega
    · obtain rfl : j = 10 := by omega
      go_wp2
      go_ret
      exact ⟨rfl, hh.out⟩
end Go.Proofs.YtgjiienipeoajaaGreatDoor
