/- Parts: The law PatchMay returns true. Condition: a bulk of at most 10^7. -/
import Derived.Test.YtdbejcbbhomdbaaGreatDoorKPt34
import Derived.Test.YtdbejcbbhomdbaaGreatDoorKPt40
set_option maxHeartbeats 20000000
set_option maxRecDepth 100000
namespace Go.Proofs.YtdbejcbbhomdbaaGreatDoor
open Go Go.RowKit
theorem Sb (l:List POp) (a:Option Addr) (n c:Nat) (w:World) (hT:Ck w) (hN:Fm w) (h:Ae w w.heap.size (.row 8 (Db l)) [.slice a n c]) (hb:Cd l<=10000000) (hin:Xi l):
 Calls Tryz.prog 3 #[.slice a n c] w fun e w'=>e=.returned (.bool true)/\Below w.heap.size w w':=by
 obtain⟨PO,hPO⟩: ∃P:Ending->World->Prop,(fun e w'=>e=.returned (.bool true)/\Below w.heap.size w w')=P:=⟨_,rfl⟩;rw[hPO];have H1:=qz (Jr l a n c w h (by omega));have h2:=fun(W:World) (hB:Below w.heap.size w W) a' c' hh=>Gc l a' l.length c' W (hT.below hB) hh (by omega) hin;have h3:=fun(W:World) (hB:Below w.heap.size w W)=>Fl l a n c W (hT.below hB) ((h.below hB).more hB.size) (by omega) hin;have H4:=qz (fun(W:World) (hB:Below w.heap.size w W)=>Fi W (hT.below hB) (hN.below hB));generalize A4 none l=M at h2 h3;obtain⟨H2,H3,HPO⟩:=hid3 h2 h3 hPO;clear h2 h3 hPO;clear hT hN h hin;go_enter Tryz.func3,Tryz.ntmps3;go_wp2_with (fail);(with_reducible refine(H1.out).mono ?_);rintro e w1 ⟨hb1,a1,c1,rfl,hf⟩;have HC:=qz (H2.out w1 hb1 a1 c1 hf.now);clear hf;go_wp2_with (fail);(with_reducible refine(HC.out).mono ?_);rintro e w2 ⟨rfl,hb2⟩;have hW2:=hb1.trans (hb2.mono hb1.size);have HC3:=qz (H3.out w2 hW2);have HW2:=qz hW2;clear hW2;clear hb1 hb2;go_wp2_with (fail);(with_reducible refine(HC3.out).mono ?_);rintro e w3 ⟨rfl,hb3⟩;have hW3:=HW2.out.trans (hb3.mono HW2.out.size);have HC4:=qz (H4.out w3 hW3);have HW3:=qz hW3;clear hW3;clear hb3;go_wp2_with (fail);(with_reducible refine(HC4.out).mono ?_);rintro e w4 ⟨rfl,hb4⟩;have HP:Hid (PO (.returned (.bool true)) w4):=by
  show PO _ _;rw[<-HPO.out];exact⟨rfl,HW3.out.trans (hb4.mono HW3.out.size)⟩
 clear hb4;go_wp2;exact HP.out
end Go.Proofs.YtdbejcbbhomdbaaGreatDoor
