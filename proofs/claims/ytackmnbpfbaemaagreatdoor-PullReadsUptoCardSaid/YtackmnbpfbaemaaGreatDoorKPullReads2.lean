/- Parts: commonplacelaw18.own: bytes in memory of their own. Condition: at most 10^9 bytes. -/
import Derived.Test.YtackmnbpfbaemaaGreatDoorKPr27
set_option maxHeartbeats 20000000
namespace Go.Proofs.YtackmnbpfbaemaaGreatDoor
open Go Go.RowKit
set_option maxRecDepth 100000 in
theorem Aa6 (l:List UInt8) (a:Option Addr) (n c:Nat) (w:World) (h:Ae w w.heap.size (.row 1 (dB l)) [.slice a n c]) (hl:l.length<=1000000000):
 Calls Tryz.prog 14 #[.slice a n c] w (Ee l w):=by
 obtain⟨hn,hR⟩:=Ld h;subst hn;have hown0:w.ownsRow w.heap.size 5 1 (.slice none 0 0) ([]:List UInt8).length (Cj []):=World.ownsRow_nil _ _ _ _;obtain⟨H,HR,Hown0⟩:=hid3 h hR hown0;clear h hR hown0;go_enter Tryz.func14,Tryz.ntmps14;go_wp2_with (at_builtin;apply Shut.out);unfold Shut;refine Br rfl (.const (.slice none 0 0)) (.tmp 3) 25 25 5 rfl Tryz.underlying25 Tryz.underlying25 w.heap.size (.slice none 0 0) [] rfl Hown0.out w.heap.size a l.length c l rfl HR.out (by simp;omega) (by simp) ?_;intro v1 w4 hown4 hg4 hat4;rw[List.nil_append]at hown4;have hb4:Below w.heap.size w w4:=(Below.refl _ _).grown hg4 (Nat.le_refl _) (by simp[Value.ownBlock]);have hP:=Ee.of hown4 hb4;have HP:=Lib.hid hP;clear hP;clear hown4 hg4 hat4 hb4;go_wp2;go_ret;exact HP.out
end Go.Proofs.YtackmnbpfbaemaaGreatDoor
