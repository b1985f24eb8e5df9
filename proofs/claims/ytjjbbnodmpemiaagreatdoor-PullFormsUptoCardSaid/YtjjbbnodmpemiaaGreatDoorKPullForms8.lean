/- Parts, joined: commonplaceref18.Response: an answer as the reference has it (it shares the input's memory). -/
import Derived.Test.YtjjbbnodmpemiaaGreatDoorProg
import Derived.Deep.RegionHeld3
import Derived.Test.YtjjbbnodmpemiaaGreatDoorKPull40
import Derived.Test.YtjjbbnodmpemiaaGreatDoorKPullForms7
/- commonplaceref18.Response: an answer as the reference has it (it shares the input's memory). -/
namespace Go.Proofs.YtjjbbnodmpemiaaGreatDoor
open Go Go.RowKit

theorem holdsIn_ivP (S : Nat → Prop) (w : World) (key : ByteArray) (n : Int) : HoldsIn S w (dP (key, iv n)) [.string key, .int .i64 3, .bool false, .int .i64 n, .string ⟨#[]⟩, .slice none 0 0, .slice none 0 0] := fun _ _ _ => holds_ivP _ _ _ _
theorem fin_resp {B0 R Rv : Nat} {c b k s : Int} {l : List POp} {la : Option Addr} {lc : Nat} {w7 w8 : World} (vs : List Value)
    (hL : HoldsIn (fun i => i < B0 ∨ Rv < i) w7 (dV (listQ l)) [.int .i64 5, .bool false, .int .i64 0, .string ⟨#[]⟩, .slice la l.length lc, .slice none 0 0]) (hR : B0 ≤ R) (hR2 : R ≤ Rv) (hRv : Rv < w7.heap.size)
    (hb8 : Below (w7.alloc (.cells #[.string kBase, .int .i64 3, .bool false, .int .i64 b, .string ⟨#[]⟩, .slice none 0 0, .slice none 0 0, .string kClient, .int .i64 3, .bool false, .int .i64 c, .string ⟨#[]⟩, .slice none 0 0, .slice none 0 0, .string kCookie, .int .i64 3, .bool false, .int .i64 k, .string ⟨#[]⟩, .slice none 0 0, .slice none 0 0, .string kLast, .int .i64 3, .bool false, .int .i64 s, .string ⟨#[]⟩, .slice none 0 0, .slice none 0 0, .string kPatch, .int .i64 5, .bool false, .int .i64 0, .string ⟨#[]⟩, .slice la l.length lc, .slice none 0 0] 60)).heap.size (w7.alloc (.cells #[.string kBase, .int .i64 3, .bool false, .int .i64 b, .string ⟨#[]⟩, .slice none 0 0, .slice none 0 0, .string kClient, .int .i64 3, .bool false, .int .i64 c, .string ⟨#[]⟩, .slice none 0 0, .slice none 0 0, .string kCookie, .int .i64 3, .bool false, .int .i64 k, .string ⟨#[]⟩, .slice none 0 0, .slice none 0 0, .string kLast, .int .i64 3, .bool false, .int .i64 s, .string ⟨#[]⟩, .slice none 0 0, .slice none 0 0, .string kPatch, .int .i64 5, .bool false, .int .i64 0, .string ⟨#[]⟩, .slice la l.length lc, .slice none 0 0] 60)) w8) :
    HoldsV (setMany w8 R 0 vs) (setMany w8 R 0 vs).heap.size (ov (respO c b k s l)) [.int .i64 6, .bool false, .int .i64 0, .string ⟨#[]⟩, .slice none 0 0, .slice (some ⟨w7.heap.size, 0, none⟩) 5 5] := by
  have hP := holdsIn_P (key := kPatch) (hL.below (alloc_below w7 (.cells #[.string kBase, .int .i64 3, .bool false, .int .i64 b, .string ⟨#[]⟩, .slice none 0 0, .slice none 0 0, .string kClient, .int .i64 3, .bool false, .int .i64 c, .string ⟨#[]⟩, .slice none 0 0, .slice none 0 0, .string kCookie, .int .i64 3, .bool false, .int .i64 k, .string ⟨#[]⟩, .slice none 0 0, .slice none 0 0, .string kLast, .int .i64 3, .bool false, .int .i64 s, .string ⟨#[]⟩, .slice none 0 0, .slice none 0 0, .string kPatch, .int .i64 5, .bool false, .int .i64 0, .string ⟨#[]⟩, .slice la l.length lc, .slice none 0 0] 60)))
  have hrow := HoldsIn.blk (l := dO (respO c b k s l)) (n := 5) (c := 5) (Blk.new w7 60 _) (S := fun i => i < B0 ∨ Rv < i) (.inr hRv) (dO_cells _) ((HoldsInA.one (holdsIn_ivP _ _ kBase b)).app ((HoldsInA.one (holdsIn_ivP _ _ kClient c)).app ((HoldsInA.one (holdsIn_ivP _ _ kCookie k)).app ((HoldsInA.one (holdsIn_ivP _ _ kLast s)).app (HoldsInA.one hP))))) rfl
  have h2 := (holdsIn_ov hrow).below hb8
  have h3 := h2.later (w' := setMany w8 R 0 vs) (by rw [setMany_size]; exact Nat.le_refl _) (fun p p1 _ => World.cell?_of_block (setMany_far vs _ _ _ _ (by rcases p1 with p1 | p1 <;> omega)))
  exact holdsV_of _ _ h3.now

set_option maxRecDepth 100000 in
set_option maxHeartbeats 8000000 in
theorem refResp_calls (B0 : Nat) (c b k s : Int) (l : List POp) (h0 : 0 ≤ c ∧ 0 ≤ b ∧ 0 ≤ k ∧ 0 ≤ s) (h1 : c ≤ 4611686018427387903 ∧ b ≤ 4611686018427387903 ∧ k ≤ 4611686018427387903 ∧ s ≤ 4611686018427387903) (a : Option Addr) (n cc : Nat) (w : World) (hB : B0 ≤ w.heap.size) (h : Holds w B0 (.row 8 (dQs l)) [.slice a n cc]) (hb : bulkQ l ≤ 100000000) :
    Calls Tryz.prog 14 #[.agg #[.int .u64 c, .int .u64 b, .int .u64 k, .int .u64 s, .slice a n cc]] w fun e w' => Below w.heap.size w w' ∧ ∃ a' c', e = .returned (.agg #[.int .i64 6, .bool false, .int .i64 0, .string ⟨#[]⟩, .slice none 0 0, .slice a' 5 c']) ∧ HoldsV w' w'.heap.size (ov (respO c b k s l)) [.int .i64 6, .bool false, .int .i64 0, .string ⟨#[]⟩, .slice none 0 0, .slice a' 5 c'] := by
  obtain ⟨z1, z2, z3, z4⟩ := h0
  obtain ⟨y1, y2, y3, y4⟩ := h1
  have hL := fun (W : World) (hB' : Below w.heap.size w W) => rValueP_calls B0 l a n cc W (Nat.le_trans hB hB'.size) (h.below (hB'.mono hB)) hb
  have hn1 := fun W => rnum_calls kBase b z2 y2 W
  have hn2 := fun W => rnum_calls kClient c z1 y1 W
  have hn3 := fun W => rnum_calls kCookie k z3 y3 W
  have hn4 := fun W => rnum_calls kLast s z4 y4 W
  have hO := fun a n c W => rObject_calls a n c W
  have Hn1 := Lib.hid hn1
  have Hn2 := Lib.hid hn2
  have Hn3 := Lib.hid hn3
  have Hn4 := Lib.hid hn4
  have HL := Lib.hid hL
  have HO := Lib.hid hO
  clear hn1 hn2 hn3 hn4 hL hO
  go_enter Tryz.func14, Tryz.ntmps14
  go_upto_region 1 with (fail)
  obtain ⟨wi, hwi⟩ : ∃ wi, (w.alloc (.cells #[.int .u64 c, .int .u64 b, .int .u64 k, .int .u64 s, .slice a n cc] 27)).alloc (.cells zero6 45) = wi := ⟨_, rfl⟩
  have hbx : Below w.heap.size w wi := hwi ▸ ((Below.refl _ _).alloc (Nat.le_refl _) _).alloc (by simp) _
  have hxb : Blk wi w.heap.size 27 #[.int .u64 c, .int .u64 b, .int .u64 k, .int .u64 s, .slice a n cc] := by rw [← hwi]; exact (Blk.new w _ _).below (alloc_below _ _) (Blk.lt (Blk.new _ _ _))
  have hxr : Blk wi (w.heap.size + 1) 45 zero6 := by rw [← hwi]; simpa using Blk.new (w.alloc (.cells #[.int .u64 c, .int .u64 b, .int .u64 k, .int .u64 s, .slice a n cc] 27)) 45 zero6
  have d0 := hxb.cell 0
  have d1 := hxb.cell 1
  have d2 := hxb.cell 2
  have d3 := hxb.cell 3
  have d4 := hxb.cell 4
  have hgb := hxb.lt
  have hgr := hxr.lt
  rw [hwi]
  have Hbx := Lib.hid hbx
  have Hxr := Lib.hid hxr
  clear hbx hxr
  clear hwi hxb
  go_region_held3 (fun W => W.cell? ⟨w.heap.size, 0, none⟩ = some (.int .u64 c) ∧ W.cell? ⟨w.heap.size, 1, none⟩ = some (.int .u64 b) ∧ W.cell? ⟨w.heap.size, 2, none⟩ = some (.int .u64 k) ∧ W.cell? ⟨w.heap.size, 3, none⟩ = some (.int .u64 s) ∧ W.cell? ⟨w.heap.size, 4, none⟩ = some (.slice a n cc)) (go_keep) (first
    | (go_at_call 27; refine (Hn1.out _).mono ?_; rintro e w3 ⟨rfl, hb3⟩; have hbr3 : Below wi.heap.size wi w3 := ((Below.drew (Below.refl _ _)).trans hb3); obtain ⟨hc3, hg3⟩ := bcellM hbr3)
    | (go_at_call 27; refine (Hn2.out _).mono ?_; rintro e w4 ⟨rfl, hb4⟩; have hbr4 := hbr3.trans (hb4.mono hbr3.size); obtain ⟨hc4, hg4⟩ := bcellM hbr4)
    | (go_at_call 27; refine (Hn3.out _).mono ?_; rintro e w5 ⟨rfl, hb5⟩; have hbr5 := hbr4.trans (hb5.mono hbr4.size); obtain ⟨hc5, hg5⟩ := bcellM hbr5)
    | (go_at_call 27; refine (Hn4.out _).mono ?_; rintro e w6 ⟨rfl, hb6⟩; have hbr6 := hbr5.trans (hb6.mono hbr5.size); obtain ⟨hc6, hg6⟩ := bcellM hbr6)
    | (go_at_call 28; refine (HL.out _ (Hbx.out.trans (hbr6.mono Hbx.out.size))).mono ?_; rintro e w7 ⟨hb7, la, lc, rfl, hh7⟩; have HH := Lib.hid (And.intro hh7 (And.intro hbr6.size hb7.size)); have hbr7 := hbr6.trans (hb7.mono hbr6.size); obtain ⟨hc7, hg7⟩ := bcellM hbr7; clear hh7)
    | (go_at_call 26; refine (HO.out _ _ _ _).mono ?_; rintro e w8 ⟨rfl, hb8⟩; have hbr8 := (hbr7.alloc hbr7.size (.cells #[.string kBase, .int .i64 3, .bool false, .int .i64 b, .string ⟨#[]⟩, .slice none 0 0, .slice none 0 0, .string kClient, .int .i64 3, .bool false, .int .i64 c, .string ⟨#[]⟩, .slice none 0 0, .slice none 0 0, .string kCookie, .int .i64 3, .bool false, .int .i64 k, .string ⟨#[]⟩, .slice none 0 0, .slice none 0 0, .string kLast, .int .i64 3, .bool false, .int .i64 s, .string ⟨#[]⟩, .slice none 0 0, .slice none 0 0, .string kPatch, .int .i64 5, .bool false, .int .i64 0, .string ⟨#[]⟩, .slice la l.length lc, .slice none 0 0] 60)).trans (hb8.mono (by have := hbr7.size; simp; omega)); have hxr8 := Hxr.out.below hbr8 hgr; obtain ⟨r0, r1, r2, r3, r4, r5⟩ := vcell hxr8; have fz := hxr8.frozen; obtain ⟨hc8, hg8⟩ := bcellM hbr8; have H8 := Lib.hid (And.intro hxr8 (And.intro hb8 hbr8))))
  all_goals
    obtain ⟨x8, b8, r8⟩ := H8.out
    obtain ⟨hh7, s6, s7⟩ := HH.out
    have hL7 := hh7.mono (T := fun i => i < B0 ∨ w.heap.size + 1 < i) (fun i _ hi => hi.imp id fun h => by omega)
    have HL7 := Lib.hid (And.intro hL7 (And.intro x8 (And.intro b8 r8)))
    clear x8 b8 r8 hh7 hL7 H8 HH hc3 hg3 hc4 hg4 hc5 hg5 hc6 hg6 hc7 hg7 hc8 hg8 hb3 hb4 hb5 hb6 hb7 hb8 hbr3 hbr4 hbr5 hbr6 hbr7 hbr8 hxr8
    go_wp2
    obtain ⟨p7, x8, b8, r8⟩ := HL7.out
    have hxf := ((((((x8.set_ 0 (.int .i64 6)).set_ 1 (.bool false)).set_ 2 (.int .i64 0)).set_ 3 (.string ⟨#[]⟩)).set_ 4 (.slice none 0 0)).set_ 5 (.slice (some ⟨w7.heap.size, 0, none⟩) 5 5))
    have hbf := setMany_below [.int .i64 6, .bool false, .int .i64 0, .string ⟨#[]⟩, .slice none 0 0, .slice (some ⟨w7.heap.size, 0, none⟩) 5 5] (Hbx.out.trans (r8.mono Hbx.out.size)) (Nat.le_succ w.heap.size) (o := 0)
    have hff := fin_resp (B0 := B0) (R := w.heap.size + 1) (Rv := w.heap.size + 1) (c := c) (b := b) (k := k) (s := s) [.int .i64 6, .bool false, .int .i64 0, .string ⟨#[]⟩, .slice none 0 0, .slice (some ⟨w7.heap.size, 0, none⟩) 5 5] p7 (by omega) (Nat.le_refl _) (by omega) b8
    exact bodyPost_ret (results_cell6 rfl rfl hxf) rfl ⟨hbf, _, _, rfl, hff⟩
end Go.Proofs.YtjjbbnodmpemiaaGreatDoor
