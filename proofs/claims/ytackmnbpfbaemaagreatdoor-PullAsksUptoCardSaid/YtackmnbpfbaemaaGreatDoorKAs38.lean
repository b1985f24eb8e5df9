/- Parts, joined: The reference's word whether ops may be a patch. Condition: a bulk of at most 10^8. Whether an answer may be: the program's word and the reference's. Condition: a bulk of at most 10^8. -/
import Derived.Test.YtackmnbpfbaemaaGreatDoorProg
import Derived.WalkLawsBesides
import Derived.BigQuiet
import Derived.Deep.QuietTactic
import Derived.Test.YtackmnbpfbaemaaGreatDoorKAs18
import Derived.Test.YtackmnbpfbaemaaGreatDoorKAs33
import Derived.Test.YtackmnbpfbaemaaGreatDoorKAs34
namespace Go.Proofs.YtackmnbpfbaemaaGreatDoor
open Go.RowKit
end Go.Proofs.YtackmnbpfbaemaaGreatDoor

namespace Go.Proofs.YtackmnbpfbaemaaGreatDoor
open Go.RowKit
set_option maxRecDepth 100000 in
set_option maxHeartbeats 1000000 in
theorem MayResponse_calls (c b k s:Int) (l:List POp) (a:Option Addr) (n cc:Nat) (w:World) (hT:Tabs w) (h:Holds w w.heap.size (.row 8 (dQs l)) [.slice a n cc]) (hb:bulkQ l≤100000000) (hin:inQ l):
 Calls Tryz.prog 38 #[.agg #[.int .u64 c, .int .u64 b, .int .u64 k, .int .u64 s, .slice a n cc]] w fun e w'=>e= .returned (.int .i64 (mayResp c b k s l))∧Below w.heap.size w w':=by
 have hb0:=fun o=>alloc_below w o
 have hM:=fun(W:World) hB=>patMay_calls l a n cc W (hT.below (w':=W) hB) ((h.below hB).more hB.size) hb hin
 by_cases h1:0<c∧c≤4611686018427387903
 · obtain⟨h1,h2⟩:=h1
   have hC:=fun W=>isClient_calls c true W (by simp[h1,h2])
   by_cases h3:b≤4611686018427387903∧k≤4611686018427387903∧s≤4611686018427387903
   · have hm:mayResp c b k s l=mayOps none l:=by unfold mayResp;rw[if_pos ⟨h1,h2,h3⟩]
     obtain⟨h3,h4,h5⟩:=h3
     have h6:max (max b k) s≤4611686018427387903:=by omega
     have HC:=Lib.hid hC
     have Hm:=Lib.hid hm
     have HM:=Lib.hid hM
     have H:=Lib.hid h
     have HT:=Lib.hid hT
     have Hb0:=Lib.hid hb0
     clear hC hm hM h hT hb0
     go_enter Tryz.func38,Tryz.ntmps38
     go_wp2_with (first
      |(go_at_call 45;(with_reducible refine(HC.out _).mono ?_);rintro e w' ⟨rfl,rfl⟩)
      |(go_at_call 61;(with_reducible refine(HM.out _ (Hb0.out _)).mono ?_);rintro e w2 ⟨rfl,hb2⟩))
     all_goals(go_ret;exact⟨by rw[Hm.out];rfl,(Hb0.out _).trans (hb2.mono (by simp))⟩)
   · have hm:mayResp c b k s l=2:=by unfold mayResp;rw[if_neg (by omega)]
     have h6:4611686018427387903<max (max b k) s:=by omega
     have HC:=Lib.hid hC
     have Hm:=Lib.hid hm
     have HM:=Lib.hid hM
     have H:=Lib.hid h
     have HT:=Lib.hid hT
     have Hb0:=Lib.hid hb0
     clear hC hm hM h hT hb0
     clear h3
     go_enter Tryz.func38,Tryz.ntmps38
     go_wp2_with (first
      |(go_at_call 45;(with_reducible refine(HC.out _).mono ?_);rintro e w' ⟨rfl,rfl⟩))
     all_goals first|(go_ret;exact⟨by rw[Hm.out];rfl,Hb0.out _⟩)|(exfalso;omega)
 · have hC:=fun W=>isClient_calls c false W (by simp;omega)
   have hm:mayResp c b k s l=2:=by unfold mayResp;rw[if_neg (by omega)]
   have HC:=Lib.hid hC
   have Hm:=Lib.hid hm
   have HM:=Lib.hid hM
   have H:=Lib.hid h
   have HT:=Lib.hid hT
   have Hb0:=Lib.hid hb0
   clear hC hm hM h hT hb0
   clear h1
   go_enter Tryz.func38,Tryz.ntmps38
   go_wp2_with (first
    |(go_at_call 45;(with_reducible refine(HC.out _).mono ?_);rintro e w' ⟨rfl,rfl⟩))
   go_ret
   exact⟨by rw[Hm.out];rfl,Hb0.out _⟩
end Go.Proofs.YtackmnbpfbaemaaGreatDoor
