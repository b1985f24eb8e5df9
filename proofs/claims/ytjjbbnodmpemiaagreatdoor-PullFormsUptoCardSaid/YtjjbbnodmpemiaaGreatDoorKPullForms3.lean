/- Parts, joined: commonplaceref18.Frame: the frame of a kind and a value that may be. Condition: a bulk of at most 10^8. -/
import Derived.Test.YtjjbbnodmpemiaaGreatDoorProg
import Derived.Test.YtjjbbnodmpemiaaGreatDoorKPull26
import Derived.Test.YtjjbbnodmpemiaaGreatDoorKPull27
/- commonplaceref18.Frame: the frame of a kind and a value that may be. Condition: a bulk of at most 10^8. -/
namespace Go.Proofs.YtjjbbnodmpemiaaGreatDoor
open Go Go.RowKit

set_option maxRecDepth 100000 in
set_option maxHeartbeats 1000000 in
theorem rFrame_calls (k : UInt8) (hk : k ≠ 0) (k0 : Int) (b0 : Bool) (n0 : Int) (t0 : ByteArray) (l0 : List Val) (o0 : List (ByteArray × Val)) (la oa : Option Addr) (lc oc : Nat) (w : World)
    (hV : HoldsV w w.heap.size (.mk k0 b0 n0 t0 l0 o0) [.int .i64 k0, .bool b0, .int .i64 n0, .string t0, .slice la l0.length lc, .slice oa o0.length oc]) (hb : (Val.mk k0 b0 n0 t0 l0 o0).bulk ≤ 100000000) (hm : mayV (.mk k0 b0 n0 t0 l0 o0) 1 = 0) (hi : inV (.mk k0 b0 n0 t0 l0 o0)) :
    Calls Tryz.prog 13 #[.int .u8 k.toNat, .agg #[.int .i64 k0, .bool b0, .int .i64 n0, .string t0, .slice la l0.length lc, .slice oa o0.length oc]] w (BytesPost (sealL (k :: textV (.mk k0 b0 n0 t0 l0 o0))) w) := by
  have hok := okV_of _ 1 hm hi
  have hlen := textV_len _ hok
  have hb1 := (Below.refl w.heap.size w).alloc (Nat.le_refl _) (.cells #[.int .i64 k0, .bool b0, .int .i64 n0, .string t0, .slice la l0.length lc, .slice oa o0.length oc] 45)
  have hX := rtext_calls _ _ (w.alloc (.cells #[.int .i64 k0, .bool b0, .int .i64 n0, .string t0, .slice la l0.length lc, .slice oa o0.length oc] 45)) 1 (HoldsV.more hb1.size _ _ (hV.below hb1)) hb hm hi
  obtain ⟨S, hS⟩ : ∃ S : ByteArray, ⟨(textV (.mk k0 b0 n0 t0 l0 o0)).toArray⟩ = S := ⟨_, rfl⟩
  have hSe : textV (.mk k0 b0 n0 t0 l0 o0) = S.data.toList := by rw [← hS]
  rw [hS] at hX
  have hFr := fun (W : World) a n c hh => rframe_calls k hk S.data.toList a n c W hh (by rw [← hSe]; omega)
  rw [hSe]
  generalize sealL (k :: S.data.toList) = L at hFr ⊢
  have HX := Lib.hid hX
  have HFr := Lib.hid hFr
  have HS := Lib.hid hS
  have HSe := Lib.hid hSe
  have Hb1 := Lib.hid hb1
  have HV := Lib.hid hV
  clear hX hFr hS hSe hb1 hV
  clear hm hi hok hlen hb
  go_enter Tryz.func13, Tryz.ntmps13
  go_wp2_with (first
    | (go_at_call 25; (with_reducible refine (HX.out).mono ?_); rintro e w2 ⟨rfl, hb2⟩)
    | (refine wpList_to_bytes rfl 9 35 5 (.tmp 10) rfl Tryz.underlying9 Tryz.underlying35 Tryz.underlying5 S rfl ?_; intro cap w3 hb3 hf3)
    | (go_at_call 24; (with_reducible refine (HFr.out _ _ _ _ hf3.now).mono ?_); rintro e w4 ⟨a2, c2, rfl, hf4, hb4⟩))
  go_ret
  have z2 : w.heap.size ≤ w2.heap.size := Nat.le_trans Hb1.out.size hb2.size
  have z3 := hb3.size
  exact ⟨a2, c2, rfl, hf4.keep (by omega) (Nat.le_refl _) (fun _ _ _ => rfl), ((Hb1.out.trans (hb2.mono Hb1.out.size)).trans (hb3.mono z2)).trans (hb4.mono (by omega))⟩
end Go.Proofs.YtjjbbnodmpemiaaGreatDoor
