/- Parts: keys.May, and the reference's. Condition: texts shorter than 2^63. -/
import Derived.Handy
import Derived.Laws.EntriesVeiled
import Derived.Test.YtackmnbpfbaemaaGreatDoorKPr13
set_option maxHeartbeats 20000000
namespace Go.Proofs.YtackmnbpfbaemaaGreatDoor
open Go.RowKit
theorem Vm (a:Addr) (s:ByteArray) (B:Bool) (w:World) (hc:w.cell? a=some (.string s)) (h:s.toList.isEmpty=B):Calls Tryz.prog 179 #[.pointer (some a)] w fun e w'=>e=.returned (.bool B)/\w=w':=by
 subst h;go_enter Tryz.func179,Tryz.ntmps179;go_wp2;go_ret;exact⟨rfl,rfl⟩
theorem Vn (a:Addr) (s:ByteArray) (B:Bool) (w:World) (hc:w.cell? a=some (.string s)) (h:decide (64<(s.size:Int))=B):Calls Tryz.prog 180 #[.pointer (some a)] w fun e w'=>e=.returned (.bool B)/\w=w':=by
 subst h;go_enter Tryz.func180,Tryz.ntmps180;go_wp2;go_ret;exact⟨rfl,rfl⟩
theorem Vo (a:Addr) (s:ByteArray) (B:Bool) (w:World) (hc:w.cell? a=some (.string s)) (h:A8 s=B) (hs:s.size<=9223372036854775807) (hT:Cf w):Calls Tryz.prog 181 #[.pointer (some a)] w fun e w'=>e=.returned (.bool (!B))/\Below w.heap.size w w':=by
 have hU:=Ce h w hs hT;have HU:=Lib.hid hU;clear hU;clear h hT;go_enter Tryz.func181,Tryz.ntmps181;go_wp2_with (go_at_call 159;refine HU.out.mono ?_;rintro e w1 ⟨rfl,hb1⟩);go_ret;exact⟨rfl,hb1⟩
abbrev Abj (g:Nat):Array Value:= #[.int .i64 8,.func (.func 179) #[] #[.pointer (some ⟨g,0,none⟩)],.int .i64 6,.func (.func 180) #[] #[.pointer (some ⟨g,0,none⟩)],.int .i64 3,.func (.func 181) #[] #[.pointer (some ⟨g,0,none⟩)]]
theorem Vp (s:ByteArray) (w:World):Calls Tryz.prog 134 #[.string s] w fun e w'=>e=.returned (.slice (some ⟨w.heap.size+1,0,none⟩) 3 3)/\w'=(w.alloc (.cells #[.string s] 9)).alloc (.cells (Abj w.heap.size) 216):=by
 go_enter Tryz.func134,Tryz.ntmps134;go_wp2;go_ret;exact⟨rfl,rfl⟩
set_option maxRecDepth 100000 in
theorem Vb (s:ByteArray) (w:World) (hT:Cf w) (hs:s.size<=9223372036854775807):Calls Tryz.prog 95 #[.string s] w fun e w'=>e=.returned (.int .i64 (Px s))/\Below w.heap.size w w':=by
 obtain⟨b1,hb1⟩: ∃b,s.toList.isEmpty=b:=⟨_,rfl⟩;obtain⟨b2,hb2⟩: ∃b,decide (64<(s.size:Int))=b:=⟨_,rfl⟩;obtain⟨b3,hb3⟩: ∃b,A8 s=b:=⟨_,rfl⟩;have hE:Px s=if b1 then 8 else if b2 then 6 else if b3 then 0 else 3:=by
  unfold Px;rw[hb1,hb3,<-hb2];by_cases h:64<s.size
  . have h':64<(s.size:Int):=by omega
    simp[h,h']
  . have h': ¬64<(s.size:Int):=by omega
    simp[h,h']
 have h1:=fun W (hc:An W w.heap.size 9 #[.string s])=>Vm ⟨w.heap.size,0,none⟩ s b1 W (hc.cell 0) hb1;have h2:=fun W (hc:An W w.heap.size 9 #[.string s])=>Vn ⟨w.heap.size,0,none⟩ s b2 W (hc.cell 0) hb2;have h3:=fun W (hc:An W w.heap.size 9 #[.string s]) hB=>Vo ⟨w.heap.size,0,none⟩ s b3 W (hc.cell 0) hb3 hs (hT.below hB);obtain⟨H1,H2,H3,HE⟩:=hid4 h1 h2 h3 hE;clear h1 h2 h3 hE;clear hb1 hb2 hb3 hT;go_enter Tryz.func95,Tryz.ntmps95;go_wp2_with (fail);(with_reducible refine(Vp s _).mono ?_);rintro e w1 ⟨rfl,rfl⟩;go_wp2_with (fail);refine wp_loop_rounds 4 ?_
 cases b1 with
 |true=>
  rw[rounds_succ];go_wp2_with (go_at_call 179;refine(H1.out _ ?_).mono ?_;(repeat (first|exact An.new _ _ _|refine An.alloc ?_ _));rintro e w2 ⟨rfl,rfl⟩);go_ret;exact⟨by rw[HE.out];rfl,by go_grown⟩
 |false=>
  rw[rounds_succ];go_wp2_with (go_at_call 179;refine(H1.out _ ?_).mono ?_;(repeat (first|exact An.new _ _ _|refine An.alloc ?_ _));rintro e w2 ⟨rfl,rfl⟩);rw[rounds_succ]
  cases b2 with
  |true=>
   go_wp2_with (go_at_call 180;refine(H2.out _ ?_).mono ?_;(repeat (first|exact An.new _ _ _|refine An.alloc ?_ _));rintro e w2 ⟨rfl,rfl⟩);go_ret;exact⟨by rw[HE.out];rfl,by go_grown⟩
  |false=>
   go_wp2_with (go_at_call 180;refine(H2.out _ ?_).mono ?_;(repeat (first|exact An.new _ _ _|refine An.alloc ?_ _));rintro e w2 ⟨rfl,rfl⟩);rw[rounds_succ]
   cases b3 with
   |false=>
    go_wp2_with (go_at_call 181;refine(H3.out _ ?_ ?_).mono ?_;(repeat (first|exact An.new _ _ _|refine An.alloc ?_ _));(go_grown);rintro e w2 ⟨rfl,hb2⟩;obtain⟨hc2,hf2⟩:=Ft hb2);go_ret;exact⟨by rw[HE.out];rfl,((((Aa _ _).alloc (by simp) _).alloc (by simp;omega) _).alloc (by simp;omega) _).alloc (by simp;omega) _ |>.trans (hb2.mono (by simp;omega))⟩
   |true=>
    go_wp2_with (go_at_call 181;refine(H3.out _ ?_ ?_).mono ?_;(repeat (first|exact An.new _ _ _|refine An.alloc ?_ _));(go_grown);rintro e w2 ⟨rfl,hb2⟩;obtain⟨hc2,hf2⟩:=Ft hb2);rw[rounds_succ];go_wp2;go_ret;exact⟨by rw[HE.out];rfl,((((Aa _ _).alloc (by simp) _).alloc (by simp;omega) _).alloc (by simp;omega) _).alloc (by simp;omega) _ |>.trans (hb2.mono (by simp;omega))⟩
end Go.Proofs.YtackmnbpfbaemaaGreatDoor
