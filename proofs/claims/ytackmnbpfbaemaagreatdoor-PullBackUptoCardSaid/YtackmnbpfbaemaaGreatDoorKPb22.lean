/- Parts, joined: keys.May, and the reference's. Condition: texts shorter than 2^63. -/
import Derived.Test.YtackmnbpfbaemaaGreatDoorProg
import Derived.Handy
import Derived.Laws.EntriesVeiled
import Derived.Test.YtackmnbpfbaemaaGreatDoorKPb4
import Derived.Test.YtackmnbpfbaemaaGreatDoorKPb16
import Derived.Test.YtackmnbpfbaemaaGreatDoorKPb19
namespace Go.Proofs.YtackmnbpfbaemaaGreatDoor
open Go.RowKit
theorem reason1_calls (a:Addr) (s:ByteArray) (B:Bool) (w:World) (hc:w.cell? a=some (.string s)) (h:s.toList.isEmpty=B):Calls Tryz.prog 179 #[.pointer (some a)] w fun e w'=>e= .returned (.bool B)∧w=w':=by
 subst h
 go_enter Tryz.func179,Tryz.ntmps179
 go_wp2
 go_ret
 exact⟨rfl,rfl⟩
theorem reason2_calls (a:Addr) (s:ByteArray) (B:Bool) (w:World) (hc:w.cell? a=some (.string s)) (h:decide (64<(s.size:Int))=B):Calls Tryz.prog 180 #[.pointer (some a)] w fun e w'=>e= .returned (.bool B)∧w=w':=by
 subst h
 go_enter Tryz.func180,Tryz.ntmps180
 go_wp2
 go_ret
 exact⟨rfl,rfl⟩
theorem reason3_calls (a:Addr) (s:ByteArray) (B:Bool) (w:World) (hc:w.cell? a=some (.string s)) (h:validB s=B) (hs:s.size≤9223372036854775807) (hT:Tabs w):Calls Tryz.prog 181 #[.pointer (some a)] w fun e w'=>e= .returned (.bool (!B))∧Below w.heap.size w w':=by
 have hU:=utfValid_calls2 h w hs hT
 have HU:=Lib.hid hU
 clear hU
 clear h hT
 go_enter Tryz.func181,Tryz.ntmps181
 go_wp2_with (go_at_call 159;refine HU.out.mono ?_;rintro e w1 ⟨rfl,hb1⟩)
 go_ret
 exact⟨rfl,hb1⟩
abbrev reasonCells (g:Nat):Array Value:= #[.int .i64 8, .func (.func 179) #[] #[.pointer (some ⟨g,0,none⟩)], .int .i64 6, .func (.func 180) #[] #[.pointer (some ⟨g,0,none⟩)], .int .i64 3, .func (.func 181) #[] #[.pointer (some ⟨g,0,none⟩)]]
theorem reasons_calls (s:ByteArray) (w:World):Calls Tryz.prog 134 #[.string s] w fun e w'=>e= .returned (.slice (some ⟨w.heap.size+1,0,none⟩) 3 3)∧w'=(w.alloc (.cells #[.string s] 9)).alloc (.cells (reasonCells w.heap.size) 216):=by
 go_enter Tryz.func134,Tryz.ntmps134
 go_wp2
 go_ret
 exact⟨rfl,rfl⟩
set_option maxRecDepth 100000 in
set_option maxHeartbeats 1000000 in
theorem keysMay_calls (s:ByteArray) (w:World) (hT:Tabs w) (hs:s.size≤9223372036854775807):Calls Tryz.prog 95 #[.string s] w fun e w'=>e= .returned (.int .i64 (keyE s))∧Below w.heap.size w w':=by
 obtain⟨b1,hb1⟩: ∃b,s.toList.isEmpty=b:=⟨_,rfl⟩
 obtain⟨b2,hb2⟩: ∃b,decide (64<(s.size:Int))=b:=⟨_,rfl⟩
 obtain⟨b3,hb3⟩: ∃b,validB s=b:=⟨_,rfl⟩
 have hE:keyE s=if b1 then 8 else if b2 then 6 else if b3 then 0 else 3:=by
  unfold keyE
  rw[hb1,hb3,←hb2]
  by_cases h:64<s.size
  · have h':64<(s.size:Int):=by omega
    simp[h,h']
  · have h': ¬64<(s.size:Int):=by omega
    simp[h,h']
 have h1:=fun W (hc:Blk W w.heap.size 9 #[.string s])=>reason1_calls ⟨w.heap.size,0,none⟩ s b1 W (hc.cell 0) hb1
 have h2:=fun W (hc:Blk W w.heap.size 9 #[.string s])=>reason2_calls ⟨w.heap.size,0,none⟩ s b2 W (hc.cell 0) hb2
 have h3:=fun W (hc:Blk W w.heap.size 9 #[.string s]) hB=>reason3_calls ⟨w.heap.size,0,none⟩ s b3 W (hc.cell 0) hb3 hs (hT.below hB)
 have H1:=Lib.hid h1
 have H2:=Lib.hid h2
 have H3:=Lib.hid h3
 have HE:=Lib.hid hE
 clear h1 h2 h3 hE
 clear hb1 hb2 hb3 hT
 go_enter Tryz.func95,Tryz.ntmps95
 go_wp2_with (fail)
 with_reducible refine(reasons_calls s _).mono ?_
 rintro e w1 ⟨rfl,rfl⟩
 go_wp2_with (fail)
 refine wp_loop_rounds 4 ?_
 cases b1 with
 |true=>
  rw[rounds_succ]
  go_wp2_with (go_at_call 179;refine(H1.out _ ?_).mono ?_;(repeat (first|exact Blk.new _ _ _|refine Blk.alloc ?_ _));rintro e w2 ⟨rfl,rfl⟩)
  go_ret
  exact⟨by rw[HE.out];rfl,by go_grown⟩
 |false=>
  rw[rounds_succ]
  go_wp2_with (go_at_call 179;refine(H1.out _ ?_).mono ?_;(repeat (first|exact Blk.new _ _ _|refine Blk.alloc ?_ _));rintro e w2 ⟨rfl,rfl⟩)
  rw[rounds_succ]
  cases b2 with
  |true=>
   go_wp2_with (go_at_call 180;refine(H2.out _ ?_).mono ?_;(repeat (first|exact Blk.new _ _ _|refine Blk.alloc ?_ _));rintro e w2 ⟨rfl,rfl⟩)
   go_ret
   exact⟨by rw[HE.out];rfl,by go_grown⟩
  |false=>
   go_wp2_with (go_at_call 180;refine(H2.out _ ?_).mono ?_;(repeat (first|exact Blk.new _ _ _|refine Blk.alloc ?_ _));rintro e w2 ⟨rfl,rfl⟩)
   rw[rounds_succ]
   cases b3 with
   |false=>
    go_wp2_with (go_at_call 181;refine(H3.out _ ?_ ?_).mono ?_;(repeat (first|exact Blk.new _ _ _|refine Blk.alloc ?_ _));(go_grown);rintro e w2 ⟨rfl,hb2⟩;obtain⟨hc2,hf2⟩:=bcell hb2)
    go_ret
    exact⟨by rw[HE.out];rfl,((((alloc_below _ _).alloc (by simp) _).alloc (by simp;omega) _).alloc (by simp;omega) _).alloc (by simp;omega) _ |>.trans (hb2.mono (by simp;omega))⟩
   |true=>
    go_wp2_with (go_at_call 181;refine(H3.out _ ?_ ?_).mono ?_;(repeat (first|exact Blk.new _ _ _|refine Blk.alloc ?_ _));(go_grown);rintro e w2 ⟨rfl,hb2⟩;obtain⟨hc2,hf2⟩:=bcell hb2)
    rw[rounds_succ]
    go_wp2
    go_ret
    exact⟨by rw[HE.out];rfl,((((alloc_below _ _).alloc (by simp) _).alloc (by simp;omega) _).alloc (by simp;omega) _).alloc (by simp;omega) _ |>.trans (hb2.mono (by simp;omega))⟩
end Go.Proofs.YtackmnbpfbaemaaGreatDoor
