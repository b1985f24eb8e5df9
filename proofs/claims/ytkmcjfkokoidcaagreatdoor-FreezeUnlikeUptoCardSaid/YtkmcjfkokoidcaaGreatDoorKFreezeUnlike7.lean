/- Parts: ref07 Map.Same. Condition: a bulk of at most 10^8. -/
import Derived.Test.YtkmcjfkokoidcaaGreatDoorKFa39
import Derived.Test.YtkmcjfkokoidcaaGreatDoorKFreezeUnlike6
set_option maxHeartbeats 20000000
set_option maxRecDepth 100000
namespace Go.Proofs.YtkmcjfkokoidcaaGreatDoor
open Go Go.RowKit
theorem Acb (l l':List A5) (M M':Nat) (a a':Option Addr) (n c n' c':Nat) (w:World) (hM:w.cell? ⟨M,0,none⟩=some (.slice a n c)) (hM':w.cell? ⟨M',0,none⟩=some (.slice a' n' c')) (lM:M<w.heap.size) (lM':M'<w.heap.size)
 (h:Ag w w.heap.size (.row 7 (dO l)) [.slice a n c]) (h':Ag w w.heap.size (.row 7 (dO l')) [.slice a' n' c']) (hb:Ab l<=100000000) (hb':Ab l'<=100000000):
 Calls Tryz.prog 19 #[.pointer (some ⟨M,0,none⟩),.pointer (some ⟨M',0,none⟩)] w (Bt (En l l'=true) w):=by
 obtain⟨PO,hPO⟩: ∃P:Ending->World->Prop,Bt (En l l'=true) w=P:=⟨_,rfl⟩;rw[hPO];have hbd:=Below.drew (Below.refl w.heap.size w);have HC:=qz (Sc l l' a a' n c n' c' w.drew ((h.below hbd).more hbd.size) ((h'.below hbd).more hbd.size) hb hb');have HPO:=qz hPO;clear hPO;clear h h' hb hb' hbd;go_enter Tryz.func19,Tryz.ntmps19;go_upto_region 1 with(fail);refine wp_region_held_drew (S:=fun Y:World=>Y.cell? ⟨M,0,none⟩=some (.slice a n c)/\Y.cell? ⟨M',0,none⟩=some (.slice a' n' c')) (by kernel_rfl) ⟨hM,hM'⟩ (fun hHeld=> ?_);refine tkH 0 hHeld ?_;refine tkH 1 hHeld ?_;refine tkH 2 hHeld ?_;refine tkH 3 hHeld ?_;refine tkH 4 hHeld ?_;refine tkH 5 hHeld ?_;refine tkH 6 hHeld ?_;refine tkH 7 hHeld ?_;refine Ee 8 fun K hK=> ?_;go_simp;(with_reducible refine(HC.out).mono ?_);rintro e w2 ⟨B,rfl,hB,hb2⟩;have hbw:Below w.heap.size w w2:=(Below.drew (Below.refl _ w)).trans hb2;refine hK.out _ _ ⟨(hbw.cell (p:=⟨M,0,none⟩) lM).trans hM,(hbw.cell (p:=⟨M',0,none⟩) lM').trans hM'⟩ (fun hHeld=> ?_);clear hK K hb2 HC
 try simp only[Act.put,tk1,tk2,tk3,tk4,tk5,tk6]
 have HP:Hid (PO (.returned (.bool B)) w2):=by
  show PO _ _;rw[<-HPO.out];exact⟨B,rfl,hB,hbw⟩
 clear hbw;refine tkH 9 hHeld ?_;refine wpAnyH_done (by kernel_rfl) ?_ _;clear hHeld;go_wp2;exact HP.out
end Go.Proofs.YtkmcjfkokoidcaaGreatDoor
