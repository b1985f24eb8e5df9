/- Parts, joined: crc.Open: what was sealed. Condition: at most 10^9 bytes, room for them. frame.read: what was sealed, its kind and its body. Condition: at most 10^9 bytes, room for them. frame.Body: the body of a frame of a kind, or why there is none. Condition: at most 10^9 bytes, room for them. frame.Spoil: bytes, one of them changed by a mask, or why not. Condition: at most 10^9 bytes. -/
import Derived.Test.YtemceefalkfneaaGreatDoorProg
import Derived.Laws.Shifts
import Derived.BigQuiet
import Derived.Deep.RegionHeld3
import Derived.Deep.QuietTactic
import Derived.BigRegionIn
import Derived.Test.YtemceefalkfneaaGreatDoorKCm16
import Derived.Test.YtemceefalkfneaaGreatDoorKCm17
import Derived.Test.YtemceefalkfneaaGreatDoorKCm19
import Derived.Test.YtemceefalkfneaaGreatDoorKCm23
/- crc.Open: what was sealed. Condition: at most 10^9 bytes, room for them. -/
namespace Go.Proofs.YtemceefalkfneaaGreatDoor
open Go Go.RowKit

/-- What was sealed, in memory of the call's own; or none. -/
def OpenPost (r : Option (List UInt8)) (w : World) (e : Ending) (w' : World) : Prop := Below w.heap.size w w' ∧ match r with
  | none => e = .returned (.tuple #[.slice none 0 0, .bool false])
  | some x => ∃ a c, e = .returned (.tuple #[.slice a x.length (x.length + c), .bool true]) ∧ Fresh w.heap.size w' (.row 1 (dB x)) [.slice a x.length (x.length + c)]
theorem OpenPost.no {w w' : World} {r : Option (List UInt8)} (h : r = none) (hb : Below w.heap.size w w') : OpenPost r w (.returned (.tuple #[.slice none 0 0, .bool false])) w' := by
  subst h
  exact ⟨hb, rfl⟩

set_option maxRecDepth 100000 in
set_option maxHeartbeats 4000000 in
theorem open_calls (l : List UInt8) (a : Option Addr) (n c : Nat) (w : World) (h : Holds w w.heap.size (.row 1 (dB l)) [.slice a n c]) (hc : n ≤ c) (hl : l.length ≤ 1000000000) :
    Calls Tryz.prog 134 #[.slice a n c] w (OpenPost (openL l) w) := by
  obtain rfl := dB_n h
  by_cases h4 : l.length < 4
  · have hno : openL l = none := by
      unfold openL sealedB
      rw [decide_eq_false (by omega)]
      rfl
    have e1 : (l.length : Int) < 4 := by omega
    have Hno := Lib.hid hno
    have H := Lib.hid h
    clear hno h
    clear h4
    go_enter Tryz.func134, Tryz.ntmps134
    go_wp2
    go_ret2
    exact OpenPost.no Hno.out (Below.refl _ _)
  · obtain ⟨m, hm⟩ : ∃ m, l.length = m + 4 := ⟨l.length - 4, by omega⟩
    have hN := four_of (l := l.drop m) (by rw [List.length_drop]; omega)
    obtain ⟨p, q, r, s, hd⟩ := hN
    have hF := dB_front h m (by omega) c
    have hS : sealedB l = decide (crcMore 0 (l.take m) = leSum [p, q, r, s]) := by
      unfold sealedB
      rw [show l.length - 4 = m from by omega, hd, decide_eq_true (by omega : 4 ≤ l.length)]
      rfl
    have hO : openL l = if crcMore 0 (l.take m) = leSum [p, q, r, s] then some (l.take m) else none := by
      unfold openL
      rw [hS, show l.length - 4 = m from by omega]
      simp only [decide_eq_true_eq]
    rw [leSum_four] at hO
    obtain ⟨g, off, ea, hg, hcell⟩ := (dB_where h).resolve_left (by rintro rfl; simp at hm)
    subst ea
    have hat : ∀ j x, [p, q, r, s][j]? = some x → w.cell? ⟨g, off + m + j, none⟩ = some (.int .u8 x.toNat) := by
      intro j x hx
      rw [Nat.add_assoc]
      refine hcell (m + j) x ?_
      rw [← List.getElem?_drop, hd]
      exact hx
    have c0 : w.cell? ⟨g, off + m, none⟩ = some (.int .u8 p.toNat) := hat 0 p rfl
    have c1 := hat 1 q rfl
    have c2 := hat 2 r rfl
    have c3 := hat 3 s rfl
    have hp := p.toNat_lt
    have hq := q.toNat_lt
    have hr := r.toNat_lt
    have hs := s.toNat_lt
    generalize p.toNat = P at *
    generalize q.toNat = Q at *
    generalize r.toNat = R at *
    generalize s.toNat = S at *
    have f1 := or8 P Q (by omega) (by omega)
    obtain ⟨X1, hX1⟩ : ∃ X, P + Q * 256 = X := ⟨_, rfl⟩
    obtain ⟨X2, hX2⟩ : ∃ X, X1 + R * 65536 = X := ⟨_, rfl⟩
    have f2 := leOr16 X1 R (by omega) (by omega)
    have f3 := or24 X2 S (by omega) (by omega)
    rw [hX1] at f1 hO
    rw [hX2] at f2 hO
    have f0 : bits .or .u32 0 (P : Int) = (P : Int) := by simpa using u32_or_nat 0 P (by omega) (by omega)
    have hlm : (l.take m).length = m := by rw [List.length_take]; omega
    obtain ⟨T, hT⟩ : ∃ T, l.take m = T := ⟨_, rfl⟩
    rw [hT] at hO hF hlm
    obtain ⟨U, hU⟩ : ∃ U, X2 + S * 16777216 = U := ⟨_, rfl⟩
    rw [hU] at hO f3
    have hC := fun nq => sum_calls T (some ⟨g, off, none⟩) m c (w.drewN nq) (hF.below (below_draws (Below.refl _ _) nq)) (by omega)
    have hcl := crcMore_lt 0 T
    generalize crcMore 0 T = V at hC hO hcl
    rw [hm] at hc hl ⊢
    have z1 : ((m + 4 : Nat) : Int) - 4 = (m : Int) := by omega
    have z2 : ¬ ((m + 4 : Nat) : Int) < 4 := by omega
    have z3 : ¬ c = m := by omega
    have z4 : (m : Int) ≤ ((m + 4 : Nat) : Int) := by omega
    have z5 : (m : Int) ≤ (c : Int) := by omega
    have H := Lib.hid h
    have HF := Lib.hid hF
    have HC := Lib.hid hC
    have HO := Lib.hid hO
    have HT := Lib.hid hT
    have HU := Lib.hid hU
    have Hcell := Lib.hid hcell
    have HX1 := Lib.hid hX1
    have HX2 := Lib.hid hX2
    have Hlm := Lib.hid hlm
    clear h hF hC hO hT hU hcell hX1 hX2 hlm
    clear h4 hS hd hat hm hg
    go_enter Tryz.func134, Tryz.ntmps134
    go_wp2
    go_quiet (fail)
    go_wp2_with (fail)
    refine wp_loop_rounds 5 ?_
    rw [rounds_succ]
    go_wp2
    rw [rounds_succ]
    go_wp2
    rw [rounds_succ]
    go_wp2
    rw [rounds_succ]
    go_wp2
    rw [rounds_succ]
    go_wp2_with (fail)
    with_reducible refine (HC.out _).mono ?_
    rintro e w2 ⟨rfl, hb⟩
    have hb0 : Below w.heap.size w w2 := (below_draws (Below.refl _ _) nq).trans hb
    have hO := HO.out
    have hF := HF
    have hlm := Hlm.out
    by_cases hVU : V = U
    · rw [if_pos hVU] at hO
      subst hVU
      have hown0 : (w2.alloc (.cells #[] 5)).ownsRow w.heap.size 5 1 (.slice (some ⟨w2.heap.size, 0, none⟩) 0 0) ([] : List UInt8).length (bcells []) := World.ownsRow_lit w2 #[] 0 hb0.size (by simp [maxLen]) rfl
      have hR0 := ((dB_reads (hF.out.below hb0)).2).alloc hb0.size (.cells #[] 5)
      have Hb0 := Lib.hid hb0
      have HO := Lib.hid hO
      have HR0 := Lib.hid hR0
      have Hown0 := Lib.hid hown0
      clear hb0 hO hR0 hown0
      clear hb
      go_wp2_with (at_builtin; apply Shut.out)
      unfold Shut
      refine wpList_append_by rfl (.tmp 41) (.tmp 42) 26 26 5 rfl Tryz.underlying26 Tryz.underlying26 w.heap.size (.slice (some ⟨w2.heap.size, 0, none⟩) 0 0) [] rfl Hown0.out w.heap.size (some ⟨g, off, none⟩) m c T rfl HR0.out (by simp; omega) (by have := Hb0.out.size; simp; omega) ?_; intro v1 w1 hown1 hg1 hat1
      have hb1 : Below w.heap.size w w1 := (Hb0.out.alloc Hb0.out.size _).grown hg1 (by have := Hb0.out.size; simp; omega) (by simp [Value.ownBlock]; exact Hb0.out.size)
      obtain ⟨a1, c1, rfl, hf1⟩ := own_bytes (l := T) hown1
      have hP : OpenPost (openL l) w (.returned (.tuple #[.slice a1 T.length (T.length + c1), .bool true])) w1 := by rw [HO.out]; exact ⟨hb1, a1, c1, rfl, hf1⟩
      rw [hlm] at hP
      have HP := Lib.hid hP
      clear hP
      clear hown1 hg1 hat1
      go_wp2
      go_ret2
      exact HP.out
    · rw [if_neg hVU] at hO
      have e1 : ((V : Int) != (U : Int)) = true := by simp; omega
      have Hb0 := Lib.hid hb0
      have HO := Lib.hid hO
      clear hb0 hO
      clear hVU hb
      go_wp2
      go_ret2
      exact OpenPost.no HO.out Hb0.out
end Go.Proofs.YtemceefalkfneaaGreatDoor

/- frame.read: what was sealed, its kind and its body. Condition: at most 10^9 bytes, room for them. -/
namespace Go.Proofs.YtemceefalkfneaaGreatDoor
open Go Go.RowKit

/-- A frame's kind and its body; or none. -/
def ReadPost (r : Option (List UInt8)) (w : World) (e : Ending) (w' : World) : Prop := Below w.heap.size w w' ∧ match r with
  | none => e = .returned (.tuple #[.agg #[.int .u8 0, .slice none 0 0], .int .i64 11])
  | some [] => e = .returned (.tuple #[.agg #[.int .u8 0, .slice none 0 0], .int .i64 11])
  | some (x :: t) => ∃ a c, e = .returned (.tuple #[.agg #[.int .u8 x.toNat, .slice a t.length (t.length + c)], .int .i64 0]) ∧ Fresh w.heap.size w' (.row 1 (dB t)) [.slice a t.length (t.length + c)]
theorem results_plain {fn : Func} {t u : Tmp} {tmps : Array Value} {W : World} {R : Nat} {a0 a1 : Value} (h : fn.results = #[.cell t 129, .tmp u]) (hp : tmps.getD t undef = .pointer (some ⟨R, 0, none⟩)) (hx : Blk W R 129 #[a0, a1]) :
    (results fn tmps).run Tryz.prog W = .ok (.tuple #[.agg #[a0, a1], tmps.getD u undef]) W := by
  have c0 := hx.cell 0
  have c1 := hx.cell 1
  simp at c0 c1
  clear hx
  have hp' : tmps[t]?.getD undef = .pointer (some ⟨R, 0, none⟩) := by simpa using hp
  simp [results, h, hp', go_sem, c0, c1]
theorem fresh_tail {b g off n c c' : Nat} {w' : World} {x : UInt8} {t : List UInt8} (h : Fresh b w' (.row 1 (dB (x :: t))) [.slice (some ⟨g, off, none⟩) n c]) : Fresh b w' (.row 1 (dB t)) [.slice (some ⟨g, off + 1, none⟩) t.length c'] := by
  intro w'' k1 k2
  refine dB_row rfl ?_
  obtain ⟨g', off', e, hg, hc⟩ := (dB_where (h w'' k1 k2)).resolve_left (by simp)
  simp only [Option.some.injEq, Addr.mk.injEq, and_true] at e
  obtain ⟨rfl, rfl⟩ := e
  refine .inr ⟨_, _, rfl, hg, fun j y hy => ?_⟩
  rw [Nat.add_assoc, Nat.add_comm 1 j]
  exact hc (j + 1) y (by simpa using hy)
theorem fresh_nil {b : Nat} {w' : World} {a : Option Addr} {c : Nat} : Fresh b w' (.row 1 (dB [])) [.slice a 0 c] := fun _ _ _ => dB_row rfl (.inl rfl)
abbrev plain0 : Array Value := #[.int .u8 0, .slice none 0 0]

set_option maxRecDepth 100000 in
set_option maxHeartbeats 4000000 in
theorem fread_calls (l : List UInt8) (a : Option Addr) (n c : Nat) (w : World) (h : Holds w w.heap.size (.row 1 (dB l)) [.slice a n c]) (hc : n ≤ c) (hl : l.length ≤ 1000000000) :
    Calls Tryz.prog 86 #[.slice a n c] w (ReadPost (openL l) w) := by
  have hB0 : Below w.heap.size w (w.alloc (.cells plain0 129)) := (Below.refl _ _).alloc (Nat.le_refl _) _
  have hC := open_calls l a n c (w.alloc (.cells plain0 129)) ((h.below hB0).more hB0.size) hc hl
  obtain ⟨O, hO⟩ : ∃ O, openL l = O := ⟨_, rfl⟩
  rw [hO] at hC ⊢
  have hbx := Blk.new w 129 plain0
  have HC := Lib.hid hC
  have HO := Lib.hid hO
  have H := Lib.hid h
  have HB0 := Lib.hid hB0
  have Hbx := Lib.hid hbx
  clear hC hO h hB0 hbx
  go_enter Tryz.func86, Tryz.ntmps86
  go_wp2_with (fail)
  with_reducible refine (HC.out).mono ?_
  rintro e w2 ⟨hb2, hr⟩
  have hx2 := Hbx.out.below hb2 Hbx.out.lt
  have hw2 := HB0.out.trans (hb2.mono HB0.out.size)
  have r0 := hx2.cell 0
  have r1 := hx2.cell 1
  have fz := hx2.frozen
  have hlt := hx2.lt
  have hno := (hx2.set_ 0 (.int .u8 0)).set_ 1 (.slice none 0 0)
  have hnb := (hw2.setCell (p := ⟨w.heap.size, 0, none⟩) (Nat.le_refl _) (.int .u8 0)).setCell (p := ⟨w.heap.size, 1, none⟩) (Nat.le_refl _) (.slice none 0 0)
  match O, hr with
  | none, hr =>
    obtain rfl := hr
    have Hx2 := Lib.hid hx2
    have Hw2 := Lib.hid hw2
    have Hno := Lib.hid hno
    have Hnb := Lib.hid hnb
    clear hx2 hw2 hno hnb
    clear hb2
    go_wp2
    exact bodyPost_ret (results_plain rfl rfl Hno.out) rfl ⟨Hnb.out, rfl⟩
  | some [], hr =>
    obtain ⟨a1, c1, rfl, hf⟩ := hr
    have Hx2 := Lib.hid hx2
    have Hw2 := Lib.hid hw2
    have Hno := Lib.hid hno
    have Hnb := Lib.hid hnb
    have Hf := Lib.hid hf
    clear hx2 hw2 hno hnb hf
    clear hb2
    go_wp2
    exact bodyPost_ret (results_plain rfl rfl Hno.out) rfl ⟨Hnb.out, rfl⟩
  | some (x :: t), hr =>
    obtain ⟨a1, c1, rfl, hf⟩ := hr
    obtain ⟨g, off, rfl, hg, hcell⟩ := dB_at hf.now (i := 0) (x := x) rfl
    have hcell : w2.cell? ⟨g, off, none⟩ = some (.int .u8 x.toNat) := hcell
    have hln : (x :: t).length = t.length + 1 := rfl
    rw [hln]
    have z0 : ¬ (t.length : Int) + 1 = 0 := by omega
    have z2 : (((t.length : Int) + 1) == 0) = false := by simpa using z0
    have hff := fun (v1 v2 : Value) (d : List UInt8) (cs : List Value) (h : Fresh (w.alloc (.cells plain0 129)).heap.size w2 (.row 1 (dB d)) cs) => (h.keep (b' := w.heap.size) (w' := ((w2.setCell ⟨w.heap.size, 0, none⟩ v1).setCell ⟨w.heap.size, 1, none⟩ v2).drew) (by simp) (Nat.le_of_eq (by simp [World.setCell])) fun p p1 p2 => World.cell?_of_block (by
      have p1' : w.heap.size + 1 ≤ p.block := by simpa using p1
      show ((w2.setCell ⟨w.heap.size, 0, none⟩ v1).setCell ⟨w.heap.size, 1, none⟩ v2).heap[p.block]? = _
      exact (Below.heap_setCell _ _ _ _ (by simp; omega)).trans (Below.heap_setCell _ _ _ _ (by simp; omega))))
    by_cases hz : t.length + c1 = 0
    · obtain rfl : t = [] := List.eq_nil_of_length_eq_zero (by omega)
      obtain rfl : c1 = 0 := by omega
      have hyes := ((hx2.set_ 0 (.int .u8 x.toNat)).set_ 1 (.slice (some ⟨g, off, none⟩) 0 0))
      have hyb := (hw2.setCell (p := ⟨w.heap.size, 0, none⟩) (Nat.le_refl _) (.int .u8 x.toNat)).setCell (p := ⟨w.heap.size, 1, none⟩) (Nat.le_refl _) (.slice (some ⟨g, off, none⟩) 0 0)
      have Hx2 := Lib.hid hx2
      have Hw2 := Lib.hid hw2
      have Hf := Lib.hid hf
      have Hno := Lib.hid hno
      have Hnb := Lib.hid hnb
      have Hff := Lib.hid hff
      have Hyes := Lib.hid hyes
      have Hyb := Lib.hid hyb
      clear hx2 hw2 hf hno hnb hff hyes hyb
      clear hb2 hln
      go_wp2
      go_region
      all_goals
        go_wp2
        exact bodyPost_ret (results_plain rfl rfl Hyes.out) rfl ⟨Hyb.out.drew, _, 0, rfl, fresh_nil⟩
    · have hyes := ((hx2.set_ 0 (.int .u8 x.toNat)).set_ 1 (.slice (some ⟨g, off + 1, none⟩) t.length (t.length + c1)))
      have hyb := (hw2.setCell (p := ⟨w.heap.size, 0, none⟩) (Nat.le_refl _) (.int .u8 x.toNat)).setCell (p := ⟨w.heap.size, 1, none⟩) (Nat.le_refl _) (.slice (some ⟨g, off + 1, none⟩) t.length (t.length + c1))
      have Hx2 := Lib.hid hx2
      have Hw2 := Lib.hid hw2
      have Hf := Lib.hid hf
      have Hno := Lib.hid hno
      have Hnb := Lib.hid hnb
      have Hff := Lib.hid hff
      have Hyes := Lib.hid hyes
      have Hyb := Lib.hid hyb
      clear hx2 hw2 hf hno hnb hff hyes hyb
      clear hb2 hln
      have z1 : ¬ (t.length + 1 + c1 = 1) := by omega
      go_wp2
      go_region
      all_goals
        go_wp2
        exact bodyPost_ret (results_plain rfl rfl Hyes.out) rfl ⟨Hyb.out.drew, _, c1, rfl, Hff.out _ _ _ _ (fresh_tail Hf.out)⟩
end Go.Proofs.YtemceefalkfneaaGreatDoor

/- frame.Body: the body of a frame of a kind, or why there is none. Condition: at most 10^9 bytes, room for them. -/
namespace Go.Proofs.YtemceefalkfneaaGreatDoor
open Go Go.RowKit

theorem u8_eq (x k : UInt8) : (((x.toNat : Nat) : Int) == ((k.toNat : Nat) : Int)) = decide (x = k) := by
  rw [Bool.eq_iff_iff]
  simp only [beq_iff_eq, decide_eq_true_eq]
  exact ⟨fun h => UInt8.toNat_inj.1 (by omega), fun h => by rw [h]⟩
theorem u8_ne0 (x : UInt8) : (((x.toNat : Nat) : Int) != 0) = !decide (x = 0) := by
  have := u8_eq x 0
  rw [bne]
  rw [← this]
  rfl
theorem named_any (x : UInt8) (w : World) : Calls Tryz.prog 63 #[.int .u8 x.toNat] w fun e w' => e = .returned (.int .i64 (if x = 0 then 2 else 0)) ∧ w = w' := by
  have h := u8_ne0 x
  have hC := fun b W => unless_calls b 2 W
  have HC := Lib.hid hC
  clear hC
  by_cases hx : x = 0
  · rw [decide_eq_true hx] at h
    rw [if_pos hx]
    clear hx
    go_enter Tryz.func63, Tryz.ntmps63
    go_wp2_with (go_at_call 27; (with_reducible refine (HC.out _ _).mono ?_); rintro e w2 ⟨rfl, rfl⟩)
    go_ret
    exact ⟨rfl, rfl⟩
  · rw [decide_eq_false hx] at h
    rw [if_neg hx]
    clear hx
    go_enter Tryz.func63, Tryz.ntmps63
    go_wp2_with (go_at_call 27; (with_reducible refine (HC.out _ _).mono ?_); rintro e w2 ⟨rfl, rfl⟩)
    go_ret
    exact ⟨rfl, rfl⟩
theorem like_calls (x k : UInt8) (w : World) : Calls Tryz.prog 88 #[.int .u8 x.toNat, .int .u8 k.toNat] w fun e w' => e = .returned (.int .i64 (if x = k then 0 else 13)) ∧ w = w' := by
  have h := u8_eq x k
  have hC := fun b W => unless_calls b 13 W
  have HC := Lib.hid hC
  clear hC
  by_cases hx : x = k
  · rw [decide_eq_true hx] at h
    rw [if_pos hx]
    clear hx
    go_enter Tryz.func88, Tryz.ntmps88
    go_wp2_with (go_at_call 27; (with_reducible refine (HC.out _ _).mono ?_); rintro e w2 ⟨rfl, rfl⟩)
    go_ret
    exact ⟨rfl, rfl⟩
  · rw [decide_eq_false hx] at h
    rw [if_neg hx]
    clear hx
    go_enter Tryz.func88, Tryz.ntmps88
    go_wp2_with (go_at_call 27; (with_reducible refine (HC.out _ _).mono ?_); rintro e w2 ⟨rfl, rfl⟩)
    go_ret
    exact ⟨rfl, rfl⟩
theorem bodyIs_calls (x k : UInt8) (gf gk : Nat) (w : World) (hf : w.cell? ⟨gf, 0, none⟩ = some (.int .u8 x.toNat)) (hk : w.cell? ⟨gk, 0, none⟩ = some (.int .u8 k.toNat)) :
    Calls Tryz.prog 87 #[.pointer (some ⟨gf, 0, none⟩), .pointer (some ⟨gk, 0, none⟩)] w fun e w' => e = .returned (.int .i64 (if x = k then 0 else 13)) ∧ w = w' := by
  have hC := fun W => like_calls x k W
  generalize (if x = k then (0 : Int) else 13) = V at hC ⊢
  have HC := Lib.hid hC
  clear hC
  go_enter Tryz.func87, Tryz.ntmps87
  go_wp2_with (go_at_call 88; (with_reducible refine (HC.out _).mono ?_); rintro e w2 ⟨rfl, rfl⟩)
  go_ret
  exact ⟨rfl, rfl⟩
/-- What is wrong with a frame's kind. -/
def kindE (x k : UInt8) : Int := if x = 0 then 2 else if x = k then 0 else 13
set_option maxHeartbeats 1000000 in
theorem first_body (x k : UInt8) (gf gk g : Nat) (w : World) (hf : w.cell? ⟨gf, 0, none⟩ = some (.int .u8 x.toNat)) (hk : w.cell? ⟨gk, 0, none⟩ = some (.int .u8 k.toNat))
    (h0 : w.cell? ⟨g, 0, none⟩ = some (.func (.func 63) #[.int .u8 x.toNat] #[])) (h1 : w.cell? ⟨g, 1, none⟩ = some (.func (.func 87) #[] #[.pointer (some ⟨gf, 0, none⟩), .pointer (some ⟨gk, 0, none⟩)])) :
    Calls Tryz.prog 29 #[.slice (some ⟨g, 0, none⟩) 2 2] w fun e w' => e = .returned (.int .i64 (kindE x k)) ∧ w = w' := by
  have hC := named_any x w
  have hD := bodyIs_calls x k gf gk w hf hk
  unfold kindE
  by_cases hx : x = 0
  · rw [if_pos hx] at hC
    rw [if_pos hx]
    have HC := Lib.hid hC
    have HD := Lib.hid hD
    have Hf := Lib.hid hf
    have Hk := Lib.hid hk
    clear hC hD hf hk
    clear hx
    go_enter Tryz.func29, Tryz.ntmps29
    go_wp2_with (fail)
    refine wp_loop_rounds 3 ?_
    rw [rounds_succ]
    go_wp2_with (fail)
    with_reducible refine (HC.out).mono ?_
    rintro e w2 ⟨rfl, rfl⟩
    go_wp2
    go_ret
    exact ⟨rfl, rfl⟩
  · rw [if_neg hx] at hC
    rw [if_neg hx]
    clear hx
    by_cases hy : x = k
    · rw [if_pos hy] at hD
      rw [if_pos hy]
      have HC := Lib.hid hC
      have HD := Lib.hid hD
      have Hf := Lib.hid hf
      have Hk := Lib.hid hk
      clear hC hD hf hk
      clear hy
      go_enter Tryz.func29, Tryz.ntmps29
      go_wp2_with (fail)
      refine wp_loop_rounds 3 ?_
      rw [rounds_succ]
      go_wp2_with (fail)
      with_reducible refine (HC.out).mono ?_
      rintro e w2 ⟨rfl, rfl⟩
      go_wp2_with (fail)
      rw [rounds_succ]
      go_wp2_with (fail)
      with_reducible refine (HD.out).mono ?_
      rintro e w2 ⟨rfl, rfl⟩
      go_wp2_with (fail)
      rw [rounds_succ]
      go_wp2
      go_ret
      exact ⟨rfl, rfl⟩
    · rw [if_neg hy] at hD
      rw [if_neg hy]
      have HC := Lib.hid hC
      have HD := Lib.hid hD
      have Hf := Lib.hid hf
      have Hk := Lib.hid hk
      clear hC hD hf hk
      clear hy
      go_enter Tryz.func29, Tryz.ntmps29
      go_wp2_with (fail)
      refine wp_loop_rounds 3 ?_
      rw [rounds_succ]
      go_wp2_with (fail)
      with_reducible refine (HC.out).mono ?_
      rintro e w2 ⟨rfl, rfl⟩
      go_wp2_with (fail)
      rw [rounds_succ]
      go_wp2_with (fail)
      with_reducible refine (HD.out).mono ?_
      rintro e w2 ⟨rfl, rfl⟩
      go_wp2
      go_ret
      exact ⟨rfl, rfl⟩

theorem cell_new0 (w : World) (t : TypeId) (a b : Value) : (w.alloc (.cells #[a, b] t)).cell? ⟨w.heap.size, 0, none⟩ = some a := (Blk.new w t #[a, b]).cell 0
theorem cell_new1 (w : World) (t : TypeId) (a b : Value) : (w.alloc (.cells #[a, b] t)).cell? ⟨w.heap.size, 1, none⟩ = some b := (Blk.new w t #[a, b]).cell 1
theorem alloc_belowM (w : World) (o : Obj) : Below w.heap.size w (w.alloc o) := (Below.refl _ _).alloc (Nat.le_refl _) _
/-- A frame's body, in memory of the call's own; or why there is none. -/
def BodyPost (k : UInt8) (l : List UInt8) (w : World) (e : Ending) (w' : World) : Prop := Below w.heap.size w w' ∧
  if bodyE k l = 0 then ∃ a c, e = .returned (.tuple #[.slice a (bodyB l).length ((bodyB l).length + c), .int .i64 0]) ∧ Fresh w.heap.size w' (.row 1 (dB (bodyB l))) [.slice a (bodyB l).length ((bodyB l).length + c)]
  else e = .returned (.tuple #[.slice none 0 0, .int .i64 (bodyE k l)])
theorem BodyPost.no {k : UInt8} {l : List UInt8} {w w' : World} {c : Int} (h : bodyE k l = c) (hc : c ≠ 0) (hb : Below w.heap.size w w') : BodyPost k l w (.returned (.tuple #[.slice none 0 0, .int .i64 c])) w' := by
  subst h
  refine ⟨hb, ?_⟩
  rw [if_neg hc]

set_option maxRecDepth 100000 in
set_option maxHeartbeats 4000000 in
theorem body_calls (k : UInt8) (l : List UInt8) (a : Option Addr) (n c : Nat) (w : World) (h : Holds w w.heap.size (.row 1 (dB l)) [.slice a n c]) (hc : n ≤ c) (hl : l.length ≤ 1000000000) :
    Calls Tryz.prog 51 #[.int .u8 k.toNat, .slice a n c] w (BodyPost k l w) := by
  have hB0 : Below w.heap.size w (w.alloc (.cells #[.int .u8 k.toNat] 5)) := (Below.refl _ _).alloc (Nat.le_refl _) _
  have hC := fread_calls l a n c _ ((h.below hB0).more hB0.size) hc hl
  have hbk := Blk.new w 5 #[.int .u8 k.toNat]
  have hE : bodyE k l = match openL l with
    | none => 11
    | some [] => 11
    | some (x :: _) => kindE x k := rfl
  have hBB : bodyB l = ((openL l).getD []).drop 1 := rfl
  have hF := fun x gf gk g W => first_body x k gf gk g W
  obtain ⟨O, hO⟩ : ∃ O, openL l = O := ⟨_, rfl⟩
  rw [hO] at hC hE hBB
  have HC := Lib.hid hC
  have HO := Lib.hid hO
  have H := Lib.hid h
  have HB0 := Lib.hid hB0
  have Hbk := Lib.hid hbk
  have HF := Lib.hid hF
  clear hC hO h hB0 hbk hF
  go_enter Tryz.func51, Tryz.ntmps51
  go_wp2_with (fail)
  with_reducible refine (HC.out).mono ?_
  rintro e w2 ⟨hb2, hr⟩
  have hk2 := Hbk.out.below hb2 Hbk.out.lt
  have hw2 := HB0.out.trans (hb2.mono HB0.out.size)
  have hltk := hk2.lt
  match O, hr with
  | none, hr =>
    obtain rfl := hr
    have hA := hw2.alloc hw2.size (.cells plain0 129)
    have Hk2 := Lib.hid hk2
    have Hw2 := Lib.hid hw2
    have HA := Lib.hid hA
    have HE := Lib.hid hE
    clear hk2 hw2 hA hE
    clear hb2
    go_wp2
    go_ret2
    exact BodyPost.no HE.out (by omega) HA.out
  | some [], hr =>
    obtain rfl := hr
    have hA := hw2.alloc hw2.size (.cells plain0 129)
    have Hk2 := Lib.hid hk2
    have Hw2 := Lib.hid hw2
    have HA := Lib.hid hA
    have HE := Lib.hid hE
    clear hk2 hw2 hA hE
    clear hb2
    go_wp2
    go_ret2
    exact BodyPost.no HE.out (by omega) HA.out
  | some (x :: t), hr =>
    obtain ⟨a1, c1, rfl, hf⟩ := hr
    have hBB : bodyB l = t := hBB
    simp only at hE
    have hA := hw2.alloc hw2.size (.cells #[.int .u8 x.toNat, .slice a1 t.length (t.length + c1)] 129)
    have hAA := fun o => hA.alloc hA.size o
    have hfx := Blk.new w2 129 #[.int .u8 x.toNat, .slice a1 t.length (t.length + c1)]
    have hkx := hk2.alloc (.cells #[.int .u8 x.toNat, .slice a1 t.length (t.length + c1)] 129)
    have hff := fun o => (hf.later (alloc_belowM w2 (.cells #[.int .u8 x.toNat, .slice a1 t.length (t.length + c1)] 129))).later (alloc_belowM _ o)
    have hFK := fun g W => HF.out x w2.heap.size w.heap.size g W
    have hltw : w.heap.size < w2.heap.size := hltk
    by_cases hK : kindE x k = 0
    · rw [hK] at hFK hE
      have Hk2 := Lib.hid hk2
      have Hw2 := Lib.hid hw2
      have HA := Lib.hid hA
      have HE := Lib.hid hE
      have HAA := Lib.hid hAA
      have Hfx := Lib.hid hfx
      have Hkx := Lib.hid hkx
      have Hff := Lib.hid hff
      have HFK := Lib.hid hFK
      have HBB := Lib.hid hBB
      clear hk2 hw2 hA hE hAA hfx hkx hff hFK hBB
      clear hb2 hK hf HF
      go_wp2_with (fail)
      with_reducible refine (HFK.out _ _ ?_ ?_ ?_ ?_).mono ?_
      · exact (Hfx.out.alloc _).cell 0
      · exact (Hkx.out.alloc _).cell 0
      · simp
      · simp
      rintro e w3 ⟨rfl, rfl⟩
      have d1 := (Hfx.out.alloc (.cells #[.func (.func 63) #[.int .u8 x.toNat] #[], .func (.func 87) #[] #[.pointer (some ⟨w2.heap.size, 0, none⟩), .pointer (some ⟨w.heap.size, 0, none⟩)]] 70)).cell 1
      go_wp2
      go_ret2
      refine ⟨HAA.out _, ?_⟩
      rw [if_pos HE.out, HBB.out]
      exact ⟨a1, c1, rfl, (Hff.out _).keep (by simp) (Nat.le_refl _) (fun _ _ _ => rfl)⟩
    · have tK : (kindE x k != 0) = true := by simpa using hK
      have hP := fun o => BodyPost.no (k := k) (l := l) hE hK (hAA o)
      generalize kindE x k = V at hFK tK hP
      have Hk2 := Lib.hid hk2
      have Hw2 := Lib.hid hw2
      have HA := Lib.hid hA
      have HE := Lib.hid hE
      have HAA := Lib.hid hAA
      have Hfx := Lib.hid hfx
      have Hkx := Lib.hid hkx
      have Hff := Lib.hid hff
      have HFK := Lib.hid hFK
      have HBB := Lib.hid hBB
      have HP := Lib.hid hP
      clear hk2 hw2 hA hE hAA hfx hkx hff hFK hBB hP
      clear hb2 hK hf HF
      go_wp2_with (fail)
      with_reducible refine (HFK.out _ _ ?_ ?_ ?_ ?_).mono ?_
      · exact (Hfx.out.alloc _).cell 0
      · exact (Hkx.out.alloc _).cell 0
      · simp
      · simp
      rintro e w3 ⟨rfl, rfl⟩
      go_wp2
      go_ret2
      exact HP.out _
end Go.Proofs.YtemceefalkfneaaGreatDoor

/- frame.Spoil: bytes, one of them changed by a mask, or why not. Condition: at most 10^9 bytes. -/
namespace Go.Proofs.YtemceefalkfneaaGreatDoor
open Go Go.RowKit

theorem placed_calls (i : Int) (gi gf : Nat) (a : Option Addr) (n c : Nat) (w : World) (hi : w.cell? ⟨gi, 0, none⟩ = some (.int .i64 i)) (hf : w.cell? ⟨gf, 0, none⟩ = some (.slice a n c)) :
    Calls Tryz.prog 26 #[.pointer (some ⟨gi, 0, none⟩), .pointer (some ⟨gf, 0, none⟩)] w fun e w' => e = .returned (.int .i64 (if 0 ≤ i ∧ i < n then 0 else 17)) ∧ w = w' := by
  have hC := fun b W => unless_calls b 17 W
  have HC := Lib.hid hC
  clear hC
  by_cases h0 : 0 ≤ i
  · have t0 : decide (0 ≤ i) = true := decide_eq_true h0
    by_cases h1 : i < n
    · have t1 : decide (i < (n : Int)) = true := decide_eq_true h1
      rw [if_pos ⟨h0, h1⟩]
      go_enter Tryz.func26, Tryz.ntmps26
      go_wp2_with (go_at_call 27; (with_reducible refine (HC.out _ _).mono ?_); rintro e w2 ⟨rfl, rfl⟩)
      go_ret
      exact ⟨rfl, rfl⟩
    · have t1 : decide (i < (n : Int)) = false := decide_eq_false h1
      rw [if_neg (fun h => h1 h.2)]
      go_enter Tryz.func26, Tryz.ntmps26
      go_wp2_with (go_at_call 27; (with_reducible refine (HC.out _ _).mono ?_); rintro e w2 ⟨rfl, rfl⟩)
      go_ret
      exact ⟨rfl, rfl⟩
  · have t0 : decide (0 ≤ i) = false := decide_eq_false h0
    rw [if_neg (fun h => h0 h.1)]
    go_enter Tryz.func26, Tryz.ntmps26
    go_wp2_with (go_at_call 27; (with_reducible refine (HC.out _ _).mono ?_); rintro e w2 ⟨rfl, rfl⟩)
    go_ret
    exact ⟨rfl, rfl⟩
theorem masked_calls (m : UInt8) (g : Nat) (w : World) (h : w.cell? ⟨g, 0, none⟩ = some (.int .u8 m.toNat)) :
    Calls Tryz.prog 28 #[.pointer (some ⟨g, 0, none⟩)] w fun e w' => e = .returned (.int .i64 (if m = 0 then 2 else 0)) ∧ w = w' := by
  have hz := u8_ne0 m
  have hC := fun b W => unless_calls b 2 W
  have HC := Lib.hid hC
  clear hC
  by_cases hx : m = 0
  · rw [decide_eq_true hx] at hz
    rw [if_pos hx]
    clear hx
    go_enter Tryz.func28, Tryz.ntmps28
    go_wp2_with (go_at_call 27; (with_reducible refine (HC.out _ _).mono ?_); rintro e w2 ⟨rfl, rfl⟩)
    go_ret
    exact ⟨rfl, rfl⟩
  · rw [decide_eq_false hx] at hz
    rw [if_neg hx]
    clear hx
    go_enter Tryz.func28, Tryz.ntmps28
    go_wp2_with (go_at_call 27; (with_reducible refine (HC.out _ _).mono ?_); rintro e w2 ⟨rfl, rfl⟩)
    go_ret
    exact ⟨rfl, rfl⟩
/-- What is wrong with a place and a mask. -/
def spoilE (i : Int) (m : UInt8) (n : Nat) : Int := if 0 ≤ i ∧ i < n then (if m = 0 then 2 else 0) else 17
set_option maxHeartbeats 1000000 in
theorem first_spoil (i : Int) (m : UInt8) (gi gf gm g : Nat) (a : Option Addr) (n c : Nat) (w : World) (hi : w.cell? ⟨gi, 0, none⟩ = some (.int .i64 i)) (hf : w.cell? ⟨gf, 0, none⟩ = some (.slice a n c)) (hm : w.cell? ⟨gm, 0, none⟩ = some (.int .u8 m.toNat))
    (h0 : w.cell? ⟨g, 0, none⟩ = some (.func (.func 26) #[] #[.pointer (some ⟨gi, 0, none⟩), .pointer (some ⟨gf, 0, none⟩)])) (h1 : w.cell? ⟨g, 1, none⟩ = some (.func (.func 28) #[] #[.pointer (some ⟨gm, 0, none⟩)])) :
    Calls Tryz.prog 29 #[.slice (some ⟨g, 0, none⟩) 2 2] w fun e w' => e = .returned (.int .i64 (spoilE i m n)) ∧ w = w' := by
  have hC := placed_calls i gi gf a n c w hi hf
  have hD := masked_calls m gm w hm
  unfold spoilE
  by_cases hx : 0 ≤ i ∧ i < n
  · rw [if_pos hx] at hC
    rw [if_pos hx]
    clear hx
    by_cases hy : m = 0
    · rw [if_pos hy] at hD
      rw [if_pos hy]
      have HC := Lib.hid hC
      have HD := Lib.hid hD
      have Hf := Lib.hid hf
      have Hm := Lib.hid hm
      have Hi := Lib.hid hi
      clear hC hD hf hm hi
      clear hy
      go_enter Tryz.func29, Tryz.ntmps29
      go_wp2_with (fail)
      refine wp_loop_rounds 3 ?_
      rw [rounds_succ]
      go_wp2_with (fail)
      with_reducible refine (HC.out).mono ?_
      rintro e w2 ⟨rfl, rfl⟩
      go_wp2_with (fail)
      rw [rounds_succ]
      go_wp2_with (fail)
      with_reducible refine (HD.out).mono ?_
      rintro e w2 ⟨rfl, rfl⟩
      go_wp2
      go_ret
      exact ⟨rfl, rfl⟩
    · rw [if_neg hy] at hD
      rw [if_neg hy]
      have HC := Lib.hid hC
      have HD := Lib.hid hD
      have Hf := Lib.hid hf
      have Hm := Lib.hid hm
      have Hi := Lib.hid hi
      clear hC hD hf hm hi
      clear hy
      go_enter Tryz.func29, Tryz.ntmps29
      go_wp2_with (fail)
      refine wp_loop_rounds 3 ?_
      rw [rounds_succ]
      go_wp2_with (fail)
      with_reducible refine (HC.out).mono ?_
      rintro e w2 ⟨rfl, rfl⟩
      go_wp2_with (fail)
      rw [rounds_succ]
      go_wp2_with (fail)
      with_reducible refine (HD.out).mono ?_
      rintro e w2 ⟨rfl, rfl⟩
      go_wp2_with (fail)
      rw [rounds_succ]
      go_wp2
      go_ret
      exact ⟨rfl, rfl⟩
  · rw [if_neg hx] at hC
    rw [if_neg hx]
    have HC := Lib.hid hC
    have HD := Lib.hid hD
    have Hf := Lib.hid hf
    have Hm := Lib.hid hm
    have Hi := Lib.hid hi
    clear hC hD hf hm hi
    clear hx
    go_enter Tryz.func29, Tryz.ntmps29
    go_wp2_with (fail)
    refine wp_loop_rounds 3 ?_
    rw [rounds_succ]
    go_wp2_with (fail)
    with_reducible refine (HC.out).mono ?_
    rintro e w2 ⟨rfl, rfl⟩
    go_wp2
    go_ret
    exact ⟨rfl, rfl⟩

/-- A row of bytes that the call owns, as its block. -/
theorem own_blk {b : Nat} {wr : World} {v : Value} {l : List UInt8} (h : wr.ownsRow b 5 1 v l.length (bcells l)) (hl : l ≠ []) :
    ∃ g cur c, v = .slice (some ⟨g, 0, none⟩) l.length (l.length + c) ∧ b ≤ g ∧ Blk wr g 5 cur ∧ ∀ (j : Nat) (x : UInt8), l[j]? = some x → cur[j]? = some (Value.int .u8 (x.toNat : Int)) := by
  rcases h.2 with ⟨rfl, h0⟩ | ⟨g, cap, cur, rfl, hbg, hg, hnc, _, _, ht⟩
  · exact absurd (List.eq_nil_of_length_eq_zero h0) hl
  · obtain ⟨d, rfl⟩ := Nat.exists_eq_add_of_le hnc
    refine ⟨g, cur, d, rfl, hbg, hg, fun j x hx => ?_⟩
    have h1 : (bcells l)[j]? = some (Value.int .u8 (x.toNat : Int)) := by unfold bcells; rw [List.getElem?_map, hx]; rfl
    rw [← ht, List.getElem?_take] at h1
    split at h1
    · simpa using h1
    · cases h1
/-- Bytes, one of them changed; or why not. -/
def SpoilPost (l : List UInt8) (i : Int) (m : UInt8) (w : World) (e : Ending) (w' : World) : Prop := Below w.heap.size w w' ∧
  if spoilE i m l.length = 0 then ∃ a c x, l[i.toNat]? = some x ∧ e = .returned (.tuple #[.slice a l.length (l.length + c), .int .i64 0]) ∧ Fresh w.heap.size w' (.row 1 (dB (l.set i.toNat (x ^^^ m)))) [.slice a l.length (l.length + c)]
  else e = .returned (.tuple #[.slice none 0 0, .int .i64 (spoilE i m l.length)])

set_option maxRecDepth 100000 in
set_option maxHeartbeats 4000000 in
theorem spoil_calls (l : List UInt8) (i : Int) (m : UInt8) (a : Option Addr) (n c : Nat) (w : World) (h : Holds w w.heap.size (.row 1 (dB l)) [.slice a n c]) (hl : l.length ≤ 1000000000) :
    Calls Tryz.prog 9 #[.slice a n c, .int .i64 i, .int .u8 m.toNat] w (SpoilPost l i m w) := by
  obtain rfl := dB_n h
  have hF := fun gi gf gm g W => first_spoil i m gi gf gm g a l.length c W
  obtain ⟨w1, hw1⟩ : ∃ w1, ((w.alloc (.cells #[.slice a l.length c] 26)).alloc (.cells #[.int .i64 i] 3)).alloc (.cells #[.int .u8 m.toNat] 5) = w1 := ⟨_, rfl⟩
  have hz1 : w1.heap.size = w.heap.size + 3 := by rw [← hw1]; simp
  have hb1 : Below w.heap.size w w1 := hw1 ▸ (((Below.refl _ _).alloc (Nat.le_refl _) _).alloc (by simp) _).alloc (by simp; omega) _
  have hxf : Blk w1 w.heap.size 26 #[.slice a l.length c] := hw1 ▸ ((Blk.new w _ _).alloc _).alloc _
  have hxi : Blk w1 (w.heap.size + 1) 3 #[.int .i64 i] := hw1 ▸ by simpa using (Blk.new (w.alloc (.cells #[.slice a l.length c] 26)) 3 #[.int .i64 i]).alloc (.cells #[.int .u8 m.toNat] 5)
  have hxm : Blk w1 (w.heap.size + 1 + 1) 5 #[.int .u8 m.toNat] := hw1 ▸ by simpa using Blk.new ((w.alloc (.cells #[.slice a l.length c] 26)).alloc (.cells #[.int .i64 i] 3)) 5 #[.int .u8 m.toNat]
  have c0 := hxf.cell 0
  have c1 := hxi.cell 0
  have c2 := hxm.cell 0
  have H := Lib.hid h
  have Hb1 := Lib.hid hb1
  have Hxf := Lib.hid hxf
  have Hxi := Lib.hid hxi
  have Hxm := Lib.hid hxm
  have HF := Lib.hid hF
  have Hz1 := Lib.hid hz1
  clear h hb1 hxf hxi hxm hF hz1
  go_enter Tryz.func9, Tryz.ntmps9
  go_upto_region 1 with (fail)
  clear hw1
  by_cases hE : spoilE i m l.length = 0
  rotate_left
  · have tE : (spoilE i m l.length != 0) = true := by simpa using hE
    have hP : ∀ W, Below w.heap.size w W → SpoilPost l i m w (.returned (.tuple #[.slice none 0 0, .int .i64 (spoilE i m l.length)])) W := by
      intro W hW
      refine ⟨hW, ?_⟩
      rw [if_neg hE]
    have hA := Hb1.out.alloc Hb1.out.size (.cells #[.func (.func 26) #[] #[.pointer (some ⟨w.heap.size + 1, 0, none⟩), .pointer (some ⟨w.heap.size, 0, none⟩)], .func (.func 28) #[] #[.pointer (some ⟨w.heap.size + 1 + 1, 0, none⟩)]] 70)
    have hF := HF.out
    generalize spoilE i m l.length = V at hF hP tE
    have HF := Lib.hid hF
    have HP := Lib.hid hP
    have HA := Lib.hid hA
    clear hF hP hA
    clear hE
    go_wp2_with (fail)
    with_reducible refine (HF.out (w.heap.size + 1) w.heap.size (w.heap.size + 1 + 1) _ _ ?_ ?_ ?_ ?_ ?_).mono ?_
    · exact (Hxi.out.alloc _).cell 0
    · exact (Hxf.out.alloc _).cell 0
    · exact (Hxm.out.alloc _).cell 0
    · simp
    · simp
    rintro e w2 ⟨rfl, rfl⟩
    go_wp2
    go_ret2
    exact HP.out _ HA.out
  · have hi : (0 ≤ i ∧ i < l.length) ∧ m ≠ 0 := by
      unfold spoilE at hE
      split at hE
      · rename_i h1
        split at hE
        · cases hE
        · rename_i h2; exact ⟨h1, h2⟩
      · cases hE
    obtain ⟨⟨hi0, hi1⟩, hm⟩ := hi
    obtain ⟨p, rfl⟩ := Int.eq_ofNat_of_zero_le hi0
    have hp : p < l.length := by omega
    obtain ⟨x, hx⟩ : ∃ x, l[p]? = some x := ⟨_, List.getElem?_eq_getElem hp⟩
    have hF := HF.out
    rw [hE] at hF
    clear HF
    have hz1 := Hz1.out
    have hb1 := Hb1.out
    have hX : bits .xor .u8 (x.toNat : Int) (m.toNat : Int) = ((x ^^^ m).toNat : Int) := by
      rw [u8_xor_nat _ _ x.toNat_lt m.toNat_lt, UInt8.toNat_xor]
    obtain ⟨wf, hwf⟩ : ∃ wf, w1.alloc (.cells #[.func (.func 26) #[] #[.pointer (some ⟨w.heap.size + 1, 0, none⟩), .pointer (some ⟨w.heap.size, 0, none⟩)], .func (.func 28) #[] #[.pointer (some ⟨w.heap.size + 1 + 1, 0, none⟩)]] 70) = wf := ⟨_, rfl⟩
    have hbf : Below w.heap.size w wf := hwf ▸ hb1.alloc hb1.size _
    have hxf1 : Blk wf w.heap.size 26 #[.slice a l.length c] := hwf ▸ Hxf.out.alloc _
    have hxi1 : Blk wf (w.heap.size + 1) 3 #[.int .i64 p] := hwf ▸ Hxi.out.alloc _
    have hxm1 : Blk wf (w.heap.size + 1 + 1) 5 #[.int .u8 m.toNat] := hwf ▸ Hxm.out.alloc _
    have hcl1 : Hid (wf.cell? ⟨w1.heap.size, 0, none⟩ = some (.func (.func 26) #[] #[.pointer (some ⟨w.heap.size + 1, 0, none⟩), .pointer (some ⟨w.heap.size, 0, none⟩)])) := hwf ▸ (Blk.new w1 _ _).cell 0
    have hcl2 : Hid (wf.cell? ⟨w1.heap.size, 1, none⟩ = some (.func (.func 28) #[] #[.pointer (some ⟨w.heap.size + 1 + 1, 0, none⟩)])) := hwf ▸ (Blk.new w1 _ _).cell 1
    have e0 := hxf1.cell 0
    have e1 := hxi1.cell 0
    have e2 := hxm1.cell 0
    have hown0 : (wf.alloc (.cells #[] 5)).ownsRow (w.heap.size + 3) 5 1 (.slice (some ⟨wf.heap.size, 0, none⟩) 0 0) ([] : List UInt8).length (bcells []) := World.ownsRow_lit wf #[] 0 (by rw [← hwf]; simp; omega) (by simp [maxLen]) rfl
    have hR0 := ((dB_reads (H.out.below hbf)).2).alloc hbf.size (.cells #[] 5)
    have hzf : w.heap.size + 3 ≤ wf.heap.size := by rw [← hwf]; simp; omega
    have y1 : w.heap.size < wf.heap.size := by omega
    have y2 : w.heap.size + 1 < wf.heap.size := by omega
    have y3 : w.heap.size + 1 + 1 < wf.heap.size := by omega
    have HF := Lib.hid hF
    have HE := Lib.hid hE
    have Hbf := Lib.hid hbf
    have Hxf1 := Lib.hid hxf1
    have Hxi1 := Lib.hid hxi1
    have Hxm1 := Lib.hid hxm1
    have Hown0 := Lib.hid hown0
    have HR0 := Lib.hid hR0
    have Hwf := Lib.hid hwf
    clear hF hE hbf hxf1 hxi1 hxm1 hown0 hR0 hwf
    clear c0 c1 c2 Hxf Hxi Hxm hb1 Hb1 hz1
    go_wp2_with (fail)
    rw [Hwf.out]
    with_reducible refine (HF.out (w.heap.size + 1) w.heap.size (w.heap.size + 1 + 1) _ _ ?_ ?_ ?_ hcl1.out hcl2.out).mono ?_
    · exact e1
    · exact e0
    · exact e2
    rintro e w2 ⟨rfl, rfl⟩
    go_wp2_with (at_builtin; refine wpList_append_by rfl (.tmp 21) (.tmp 22) 26 26 5 rfl Tryz.underlying26 Tryz.underlying26 (w.heap.size + 3) (.slice (some ⟨wf.heap.size, 0, none⟩) 0 0) [] rfl Hown0.out w.heap.size a l.length c l rfl HR0.out (by simp; omega) (by simp; omega) ?_; intro v1 w4 hown4 hg4 hat4)
    rw [List.nil_append] at hown4
    obtain ⟨g, cur, d, rfl, hgb, hxg, hcur⟩ := own_blk hown4 (by rintro rfl; simp at hp)
    have hb4 : Below (w.heap.size + 3) wf w4 := ((Below.refl _ _).alloc hzf _).grown hg4 (by simp; omega) (by simp [Value.ownBlock]; omega)
    have hbw : Below w.heap.size w w4 := Hbf.out.trans (hb4.mono (by omega))
    have r1 := (Hxi1.out.below hb4 (by omega)).cell 0
    have r2 := (Hxm1.out.below hb4 (by omega)).cell 0
    have r3 : w4.cell? ⟨g, p, none⟩ = some (.int .u8 x.toNat) := (hxg.cell p).trans (hcur p x hx)
    have r4 := hxg.frozen p
    have hgl := hxg.lt
    have hxs := hxg.set_ p (.int .u8 (x ^^^ m).toNat)
    have hbs := hbw.setCell (p := ⟨g, p, none⟩) (by simp; omega) (.int .u8 (x ^^^ m).toNat)
    have hzs : (w4.setCell ⟨g, p, none⟩ (.int .u8 (x ^^^ m).toNat)).heap.size = w4.heap.size := by simp [World.setCell]
    have hfr : Fresh w.heap.size (w4.setCell ⟨g, p, none⟩ (.int .u8 (x ^^^ m).toNat)) (.row 1 (dB (l.set p (x ^^^ m)))) [.slice (some ⟨g, 0, none⟩) l.length (l.length + d)] := by
      refine dB_fresh (by simp) (by omega) (by rw [hzs]; exact hgl) (fun j y hy => ?_)
      rw [hxs.cell j]
      by_cases hj : p = j
      · subst hj
        rw [List.getElem?_set_self hp] at hy
        obtain rfl := Option.some.inj hy
        have := (Array.getElem?_eq_some_iff.1 (hcur p x hx)).1
        rw [Array.getElem?_setIfInBounds_self_of_lt this]
      · rw [List.getElem?_set_ne hj] at hy
        rw [Array.getElem?_setIfInBounds_ne hj]
        exact hcur j y hy
    have hP : SpoilPost l p m w (.returned (.tuple #[.slice (some ⟨g, 0, none⟩) l.length (l.length + d), .int .i64 0])) (w4.setCell ⟨g, p, none⟩ (.int .u8 (x ^^^ m).toNat)).drew := by
      refine ⟨hbs.drew, ?_⟩
      rw [if_pos HE.out]
      exact ⟨_, d, x, hx, rfl, hfr⟩
    have q1 : (p : Int) < (l.length : Int) := by omega
    have HP := Lib.hid hP
    clear hP
    clear hown4 hg4 hat4 hb4 hbw hbs hxs hfr hzs hxg hcur hx
    go_wp2
    go_region
    all_goals
      go_wp2
      go_ret2
      exact HP.out
end Go.Proofs.YtemceefalkfneaaGreatDoor
