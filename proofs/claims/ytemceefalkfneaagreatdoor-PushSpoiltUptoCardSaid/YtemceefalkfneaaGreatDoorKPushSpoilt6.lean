/- Parts, joined: The tables and the two errors that the rows list: a world for the witnesses. No condition. The table of the mutators' names. Plain. No condition. The reference's own values: Int, Text, Object, List; rows that share old memory. No condition. commonplaceref17.SameList, Same: of two zero pushes. No condition. -/
import Derived.Test.YtemceefalkfneaaGreatDoorProg
import Derived.Test.YtemceefalkfneaaGreatDoorChecked
import Derived.Test.YtemceefalkfneaaGreatDoorRows
import Derived.Lay
import Derived.Lib.LaidIn
import Derived.Lib.LaidU8T
import Derived.LaidSub
import Derived.Lib.ItoaNum
import Derived.Deep.DeepHandedRow
import Derived.ProofKit
import Derived.Test.YtemceefalkfneaaGreatDoorKCm22
import Derived.Test.YtemceefalkfneaaGreatDoorKCm28
import Derived.Test.YtemceefalkfneaaGreatDoorKPushSpoilt2
import Derived.Test.YtemceefalkfneaaGreatDoorKPushSpoilt3
/- The tables and the two errors that the rows list: a world for the witnesses. No condition. -/
namespace Go.Proofs.YtemceefalkfneaaGreatDoor
open Go.RowKit Go.ChangeShapes Go.WideShapes Go.ChangeAt

theorem own_knob : ownKnob Tryz.prog.godebug = none := by kernel_rfl
/-- A world that holds what the rows list. -/
noncomputable def laidWorld (os : Os) : World := World.laidAll Tryz.prog os Rows.pushSpoiltRow.laid
theorem laid_first : Rows.laid_unicode_utf8_first = Lib.firstData := by kernel_rfl
theorem laid_accept : Rows.laid_unicode_utf8_acceptRanges (H := Unit) = Lib.acceptData := by kernel_rfl
theorem laid_pow10 : Rows.laid_internal_strconv_uint64pow10 (H := Unit) = Lib.tabData .u64 Lib.pow10Tab := by kernel_rfl
theorem laid_met (os : Os) (args : Array Value) : laidMet Tryz.prog Rows.pushSpoiltRow.laid ((laidWorld os).forCall (fun _ _ => 0) ⟨#[], args, []⟩).memory :=
  laidMet_laidAll _ (by kernel_rfl) (by kernel_rfl)
end Go.Proofs.YtemceefalkfneaaGreatDoor

/- The table of the mutators' names. Plain. No condition. -/
namespace Go.Proofs.YtemceefalkfneaaGreatDoor
open Go.RowKit

/-- The table of the mutators' names. -/
def MNames (w : World) : Prop := w.cell? ⟨1, 1, none⟩ = some (.string nPut) ∧ w.cell? ⟨1, 2, none⟩ = some (.string nDel) ∧ w.cell? ⟨1, 3, none⟩ = some (.string nInc) ∧ w.cell? ⟨1, 4, none⟩ = some (.string nCas) ∧ w.cell? ⟨1, 5, none⟩ = some (.string nApp) ∧ w.cell? ⟨1, 6, none⟩ = some (.string nMove) ∧ w.cell? ⟨1, 7, none⟩ = some (.string nSeq) ∧ 1 < w.heap.size
theorem MNames.below {w w' : World} (h : MNames w) (hb : Below w.heap.size w w') : MNames w' := by
  obtain ⟨h1, h2, h3, h4, h5, h6, h7, h8⟩ := h
  exact ⟨(hb.cell h8).trans h1, (hb.cell h8).trans h2, (hb.cell h8).trans h3, (hb.cell h8).trans h4, (hb.cell h8).trans h5, (hb.cell h8).trans h6, (hb.cell h8).trans h7, Nat.lt_of_lt_of_le h8 hb.size⟩
end Go.Proofs.YtemceefalkfneaaGreatDoor

/- The reference's own values: Int, Text, Object, List; rows that share old memory. No condition. -/
namespace Go.Proofs.YtemceefalkfneaaGreatDoor
open Go Go.RowKit

/-- A member as the result's variable holds it. -/
theorem results_cell7 {fn : Func} {t : Tmp} {tmps : Array Value} {W : World} {R : Nat} {a0 a1 a2 a3 a4 a5 a6 : Value} (h : fn.results = #[.cell t 57]) (hp : tmps.getD t undef = .pointer (some ⟨R, 0, none⟩)) (hx : Blk W R 57 #[a0, a1, a2, a3, a4, a5, a6]) :
    (results fn tmps).run Tryz.prog W = .ok (.agg #[a0, a1, a2, a3, a4, a5, a6]) W := by
  have c0 := hx.cell 0
  have c1 := hx.cell 1
  have c2 := hx.cell 2
  have c3 := hx.cell 3
  have c4 := hx.cell 4
  have c5 := hx.cell 5
  have c6 := hx.cell 6
  clear hx
  have hp' : tmps[t]?.getD undef = .pointer (some ⟨R, 0, none⟩) := by simpa using hp
  simp [results, h, hp', go_sem] at c0 c1 c2 c3 c4 c5 c6 ⊢
  simp [c0, c1, c2, c3, c4, c5, c6]
abbrev zero7 : Array Value := #[.string ⟨#[]⟩, .int .i64 0, .bool false, .int .i64 0, .string ⟨#[]⟩, .slice none 0 0, .slice none 0 0]
theorem mcell {w : World} {g : Nat} {t : TypeId} {a0 a1 a2 a3 a4 a5 a6 : Value} (h : Blk w g t #[a0, a1, a2, a3, a4, a5, a6]) :
    w.cell? ⟨g, 0, none⟩ = some a0 ∧ w.cell? ⟨g, 1, none⟩ = some a1 ∧ w.cell? ⟨g, 2, none⟩ = some a2 ∧ w.cell? ⟨g, 3, none⟩ = some a3 ∧ w.cell? ⟨g, 4, none⟩ = some a4 ∧ w.cell? ⟨g, 5, none⟩ = some a5 ∧ w.cell? ⟨g, 6, none⟩ = some a6 :=
  ⟨h.cell 0, h.cell 1, h.cell 2, h.cell 3, h.cell 4, h.cell 5, h.cell 6⟩
theorem holdsIn_ov {S : Nat → Prop} {w : World} {o : List (ByteArray × Val)} {a : Option Addr} {n c : Nat} (h : HoldsIn S w (.row 7 (dO o)) [.slice a n c]) : HoldsIn S w (dV (ov o)) [.int .i64 6, .bool false, .int .i64 0, .string ⟨#[]⟩, .slice none 0 0, .slice a n c] := fun w'' h1 h2 => by
  simp only [ov, dV, Holds]
  exact HoldsA.six.2 ⟨[.slice none 0 0], [.slice a n c], rfl, rfl, rfl, rfl, rfl, ⟨none, 0, rfl, by simp [dL], [], rfl, by simp [dL]⟩, h w'' h1 h2⟩
theorem holdsIn_tvP (S : Nat → Prop) (w : World) (key s : ByteArray) : HoldsIn S w (dP (key, tv s)) [.string key, .int .i64 4, .bool false, .int .i64 0, .string s, .slice none 0 0, .slice none 0 0] := fun _ _ _ => holds_tvP _ _ _ _
theorem holdsIn_P {S : Nat → Prop} {w : World} {key : ByteArray} {v : Val} {cs : List Value} (h : HoldsIn S w (dV v) cs) : HoldsIn S w (dP (key, v)) (.string key :: cs) := fun w'' h1 h2 => ⟨[.string key], cs, rfl, ⟨rfl, rfl⟩, cs, [], by simp, h w'' h1 h2, rfl⟩
theorem blk_appX {S0 : Nat → Prop} {w w6 : World} {R b : Nat} {t e : TypeId} {sz : Nat} {l : List D} {V : Value} {cs : Array Value} {wr : World} (h : Blk w R t cs) (hg : w.grownBy w6 V.ownBlock) (hr : RowX S0 b e sz wr l V) (hR : R < b ∨ wr.heap.size ≤ R) : Blk w6 R t cs :=
  h.grown hg fun e => by have := hr.base R e.symm; omega
theorem below_appX {S0 : Nat → Prop} {w w6 : World} {B b : Nat} {e : TypeId} {sz : Nat} {l : List D} {V : Value} {w0 wr : World} (h : Below B w0 w) (hg : w.grownBy w6 V.ownBlock) (hr : RowX S0 b e sz wr l V) (hB : B ≤ b) (hBw : B ≤ w.heap.size) : Below B w0 w6 :=
  h.grown hg hBw fun k hk => Nat.le_trans hB (hr.base k hk).1
theorem ucell {w : World} {g off : Nat} {B : Nat} {w' : World} (hb : Below B w w') (hg : g < B) {i : Nat} {u : Value} (h : w.cell? ⟨g, off + i, none⟩ = some u) : w'.cell? ⟨g, off + i, none⟩ = some u := (hb.cell (p := ⟨g, off + i, none⟩) hg).trans h
theorem holdsIn_ivP (S : Nat → Prop) (w : World) (key : ByteArray) (n : Int) : HoldsIn S w (dP (key, iv n)) [.string key, .int .i64 3, .bool false, .int .i64 n, .string ⟨#[]⟩, .slice none 0 0, .slice none 0 0] := fun _ _ _ => holds_ivP _ _ _ _
end Go.Proofs.YtemceefalkfneaaGreatDoor

/- commonplaceref17.SameList, Same: of two zero pushes. No condition. -/
namespace Go.Proofs.YtemceefalkfneaaGreatDoor
open Go Go.RowKit

set_option maxHeartbeats 1000000 in
theorem sameList_nil (w : World) : Calls Tryz.prog 42 #[.slice none 0 0, .slice none 0 0] w fun e w' => e = .returned (.bool true) ∧ w = w' := by
  go_enter Tryz.func42, Tryz.ntmps42
  go_wp2_with (fail)
  refine wp_loop_rounds 1 ?_
  rw [rounds_succ]
  go_wp2
  go_ret
  exact ⟨rfl, rfl⟩
set_option maxHeartbeats 1000000 in
theorem same17_zero (w : World) : Calls Tryz.prog 16 #[.agg #[.int .u64 0, .slice none 0 0], .agg #[.int .u64 0, .slice none 0 0]] w fun e w' => e = .returned (.bool true) ∧ Below w.heap.size w w' := by
  have hC := fun W => sameList_nil W
  have HC := Lib.hid hC
  clear hC
  go_enter Tryz.func16, Tryz.ntmps16
  go_wp2_with (fail)
  with_reducible refine (HC.out _).mono ?_
  rintro e w2 ⟨rfl, rfl⟩
  go_wp2
  go_ret
  exact ⟨rfl, two_boxes _ _ _⟩
end Go.Proofs.YtemceefalkfneaaGreatDoor
