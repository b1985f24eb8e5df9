/- Parts, joined: Members of numbers, texts as values; frames of objects; the law's own frames. Condition: sizes of at most 10^8. -/
import Derived.Test.YtemceefalkfneaaGreatDoorProg
import Derived.Test.YtemceefalkfneaaGreatDoorKCm16
import Derived.Test.YtemceefalkfneaaGreatDoorKCm17
import Derived.Test.YtemceefalkfneaaGreatDoorKCm18
import Derived.Test.YtemceefalkfneaaGreatDoorKCm19
import Derived.Test.YtemceefalkfneaaGreatDoorKCm25
import Derived.Test.YtemceefalkfneaaGreatDoorKCm26
/- Members of numbers, texts as values; frames of objects; the law's own frames. Condition: sizes of at most 10^8. -/
namespace Go.Proofs.YtemceefalkfneaaGreatDoor
open Go Go.RowKit

theorem textual_calls (s : ByteArray) (w : World) : Calls Tryz.prog 77 #[.string s] w fun e w' => e = .returned (.agg #[.int .i64 4, .bool false, .int .i64 0, .string s, .slice none 0 0, .slice none 0 0]) ∧ Below w.heap.size w w' := by
  go_enter Tryz.func77, Tryz.ntmps77
  go_wp2
  exact bodyPost_ret (v := .agg #[.int .i64 4, .bool false, .int .i64 0, .string s, .slice none 0 0, .slice none 0 0]) (by simp [results, Tryz.results77, go_sem]) rfl ⟨rfl, (Below.refl _ _).alloc (Nat.le_refl _) _⟩
theorem number_calls (key : ByteArray) (n : Int) (h0 : 0 ≤ n) (h1 : n ≤ 4611686018427387903) (w : World) : Calls Tryz.prog 20 #[.string key, .int .u64 n] w fun e w' => e = .returned (.agg #[.string key, .int .i64 3, .bool false, .int .i64 n, .string ⟨#[]⟩, .slice none 0 0, .slice none 0 0]) ∧ Below w.heap.size w w' := by
  go_enter Tryz.func20, Tryz.ntmps20
  go_wp2
  exact bodyPost_ret (v := .agg #[.string key, .int .i64 3, .bool false, .int .i64 n, .string ⟨#[]⟩, .slice none 0 0, .slice none 0 0]) (by simp [results, Tryz.results20, go_sem]) rfl ⟨rfl, (Below.refl _ _).alloc (Nat.le_refl _) _⟩

theorem toB_nat (s : ByteArray) : s.size = s.data.toList.length := Lib.size_eq s
set_option maxRecDepth 100000 in
theorem lframed_calls (k : UInt8) (hk : k ≠ 0) (s : ByteArray) (hs : s.size ≤ 900000000) (w : World) :
    Calls Tryz.prog 25 #[.int .u8 k.toNat, .string s] w (BytesPost (sealL (k :: s.data.toList)) w) := by
  have hF := fun W a n c h => rframe_calls k hk s.data.toList a n c W h (by rw [← toB_nat]; exact hs)
  generalize sealL (k :: s.data.toList) = L at hF ⊢
  have HF := Lib.hid hF
  clear hF
  go_enter Tryz.func25, Tryz.ntmps25
  go_wp2_with (first
    | (refine wpList_to_bytes rfl 9 26 5 (.tmp 9) rfl Tryz.underlying9 Tryz.underlying26 Tryz.underlying5 s rfl ?_; intro cap w1 hb1 hf1)
    | (go_at_call 39; (with_reducible refine (HF.out _ _ _ _ hf1.now).mono ?_); rintro e w3 ⟨a2, c2, rfl, hf2, hb2⟩))
  go_ret
  exact ⟨a2, c2, rfl, hf2.keep hb1.size (Nat.le_refl _) (fun _ _ _ => rfl), hb1.trans (hb2.mono hb1.size)⟩

/-- The frame of an object, or why there is none. -/
def FramedPost (k : UInt8) (v : Val) (w : World) (e : Ending) (w' : World) : Prop := mayV v 1 = 0 → BytesPost0 (sealL (k :: textV v)) w e w'

set_option maxRecDepth 100000 in
set_option maxHeartbeats 1000000 in
/-- The frame of the object of these members, which may be. -/
theorem pframed_calls (k : UInt8) (hk : k ≠ 0) (o o' : List (ByteArray × Val)) (a : Option Addr) (n c : Nat) (w : World) (hT : Tabs w) (h : Holds w w.heap.size (.row 7 (dO o)) [.slice a n c]) (hb : bulkO o ≤ 90000000)
    (ho : objAll o [] = some o') (hm : mayV (ov o') 1 = 0) (hi : inV (ov o')) :
    Calls Tryz.prog 19 #[.int .u8 k.toNat, .slice a n c] w (BytesPost0 (sealL (k :: textV (ov o'))) w) := by
  have hO : Calls Tryz.prog 46 #[.slice a n c] w fun e w' => Below w.heap.size w w' ∧ ∃ la lc oa oc, e = .returned (.tuple #[.agg #[.int .i64 6, .bool false, .int .i64 0, .string ⟨#[]⟩, .slice la 0 lc, .slice oa o'.length oc], .int .i64 0]) ∧ Fresh w.heap.size w' (dV (ov o')) [.int .i64 6, .bool false, .int .i64 0, .string ⟨#[]⟩, .slice la 0 lc, .slice oa o'.length oc] := by
    refine (vobj_calls o a n c w h hb).mono ?_
    rintro e w' ⟨hb', ⟨hn, _⟩ | ⟨o2, cs, h2, rfl, hl, hf⟩⟩
    · rw [ho] at hn; cases hn
    · rw [ho] at h2
      cases h2
      have hv := holdsV_of (.mk 6 false 0 ⟨#[]⟩ [] o') _ hf.now
      simp only [HoldsV] at hv
      obtain ⟨la, lc, oa, oc, rfl, _, _⟩ := hv
      exact ⟨hb', la, lc, oa, oc, rfl, hf⟩
  have hbv : (ov o').bulk ≤ 90000010 := by
    have := objAll_bulk ho
    simp only [ov, Val.bulk, bulkL, bulkO, nil0, ByteArray.size] at this ⊢
    simp; omega
  have hok := okV_of _ 1 hm hi
  have hlen := textV_len (ov o') hok
  have hT2 := fun (W : World) (hB : Below w.heap.size w W) cs hv => Text_calls (ov o') cs W (hT.below hB) hv (by omega) hi
  have hts : textS (ov o') = ⟨(textV (ov o')).toArray⟩ := by unfold textS; rw [if_pos hm]
  simp only [hts, hm] at hT2
  clear hts
  have hFr := fun (W : World) a n c hh => frame_calls k hk (textV (ov o')) a n c W hh (by omega)
  obtain ⟨S, hS⟩ : ∃ S : ByteArray, ⟨(textV (ov o')).toArray⟩ = S := ⟨_, rfl⟩
  have hSe : textV (ov o') = S.data.toList := by rw [← hS]
  rw [hS] at hT2
  rw [hSe] at hFr hlen ⊢
  generalize sealL (k :: S.data.toList) = L at hFr ⊢
  obtain ⟨V, hV⟩ : ∃ V, ov o' = V := ⟨_, rfl⟩
  rw [hV] at hO hT2 hlen
  have HO := Lib.hid hO
  have HT2 := Lib.hid hT2
  have HFr := Lib.hid hFr
  have HT := Lib.hid hT
  have H := Lib.hid h
  have HS := Lib.hid hS
  have HSe := Lib.hid hSe
  have HV := Lib.hid hV
  clear hO hT2 hFr hT h hS hSe hV
  clear hm hi hok
  go_enter Tryz.func19, Tryz.ntmps19
  go_wp2_with (first
    | (go_at_call 46; (with_reducible refine (HO.out).mono ?_); rintro e w1 ⟨hb1, la, lc, oa, oc, rfl, hf1⟩)
    | (go_at_call 36; (with_reducible refine (HT2.out _ (hb1.alloc hb1.size _) _ (holdsV_of _ _ (hf1.later (alloc_below _ _)).now)).mono ?_); rintro e w2 ⟨rfl, hb2⟩)
    | (refine wpList_to_bytes rfl 9 26 5 (.tmp 26) rfl Tryz.underlying9 Tryz.underlying26 Tryz.underlying5 S rfl ?_; intro cap w3 hb3 hf3)
    | (go_at_call 37; (with_reducible refine (HFr.out _ _ _ _ hf3.now).mono ?_); rintro e w4 ⟨a2, c2, rfl, hf4, hb4⟩))
  go_ret2
  have z2 : w.heap.size ≤ w2.heap.size := by have h2 := hb2.size; have h1 := hb1.size; rw [World.size_alloc] at h2; omega
  have z3 := hb3.size
  exact ⟨a2, c2, rfl, hf4.keep (by omega) (Nat.le_refl _) (fun _ _ _ => rfl), (((hb1.alloc hb1.size _).trans (hb2.mono (by have := hb1.size; simp; omega))).trans (hb3.mono z2)).trans (hb4.mono (by omega))⟩
end Go.Proofs.YtemceefalkfneaaGreatDoor
