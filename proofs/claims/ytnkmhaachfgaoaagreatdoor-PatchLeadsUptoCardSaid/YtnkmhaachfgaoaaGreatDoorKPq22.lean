/- Parts: keys.May, and the reference's. Condition: texts shorter than 2^63. -/
import Derived.Handy
import Derived.Laws.EntriesVeiled
import Derived.Test.YtnkmhaachfgaoaaGreatDoorKPq19
set_option maxHeartbeats 20000000
set_option maxRecDepth 100000
namespace Go.Proofs.YtnkmhaachfgaoaaGreatDoor
open Go.RowKit
theorem Su (a:Addr) (s:ByteArray) (B:Bool) (w:World) (hc:w.cell? a=some (.string s)) (h:s.toList.isEmpty=B):Calls Tryz.prog 166 #[.pointer (some a)] w fun e w'=>e=.returned (.bool B)/\w=w':=by
 subst h;go_enter Tryz.func166,Tryz.ntmps166;go_wp2;go_ret;exact⟨rfl,rfl⟩
theorem Sv (a:Addr) (s:ByteArray) (B:Bool) (w:World) (hc:w.cell? a=some (.string s)) (h:decide (64<(s.size:Int))=B):Calls Tryz.prog 167 #[.pointer (some a)] w fun e w'=>e=.returned (.bool B)/\w=w':=by
 subst h;go_enter Tryz.func167,Tryz.ntmps167;go_wp2;go_ret;exact⟨rfl,rfl⟩
theorem Sw (a:Addr) (s:ByteArray) (B:Bool) (w:World) (hc:w.cell? a=some (.string s)) (h:A4 s=B) (hs:s.size<=9223372036854775807) (hT:Cr w):Calls Tryz.prog 168 #[.pointer (some a)] w fun e w'=>e=.returned (.bool (!B))/\Below w.heap.size w w':=by
 have HU:=qz (Bt h w hs hT);clear h hT;go_enter Tryz.func168,Tryz.ntmps168;go_wp2_with (go_at_call 169;refine HU.out.mono ?_;rintro e w1 ⟨rfl,hb1⟩);go_ret;exact⟨rfl,hb1⟩
abbrev Yn (g:Nat):Array Value:= #[.int .i64 8,.func (.func 166) #[] #[.pointer (some ⟨g,0,none⟩)],.int .i64 6,.func (.func 167) #[] #[.pointer (some ⟨g,0,none⟩)],.int .i64 3,.func (.func 168) #[] #[.pointer (some ⟨g,0,none⟩)]]
theorem Sx (s:ByteArray) (w:World):Calls Tryz.prog 104 #[.string s] w fun e w'=>e=.returned (.slice (some ⟨w.heap.size+1,0,none⟩) 3 3)/\w'=(w.alloc (.cells #[.string s] 9)).alloc (.cells (Yn w.heap.size) 166):=by
 go_enter Tryz.func104,Tryz.ntmps104;go_wp2;go_ret;exact⟨rfl,rfl⟩
theorem Si (s:ByteArray) (w:World) (hT:Cr w) (hs:s.size<=9223372036854775807):Calls Tryz.prog 63 #[.string s] w fun e w'=>e=.returned (.int .i64 (Ju s))/\Below w.heap.size w w':=by
 obtain⟨b1,hb1⟩: ∃b,s.toList.isEmpty=b:=⟨_,rfl⟩;obtain⟨b2,hb2⟩: ∃b,decide (64<(s.size:Int))=b:=⟨_,rfl⟩;obtain⟨b3,hb3⟩: ∃b,A4 s=b:=⟨_,rfl⟩;have hE:Ju s=if b1 then 8 else if b2 then 6 else if b3 then 0 else 3:=by
  unfold Ju;rw[hb1,hb3,<-hb2];by_cases h:64<s.size
  . have h':64<(s.size:Int):=by omega
    simp[h,h']
  . have h': ¬64<(s.size:Int):=by omega
    simp[h,h']
 have H1:=qz (fun W (hc:Ah W w.heap.size 9 #[.string s])=>Su ⟨w.heap.size,0,none⟩ s b1 W (hc.cell 0) hb1);have H2:=qz (fun W (hc:Ah W w.heap.size 9 #[.string s])=>Sv ⟨w.heap.size,0,none⟩ s b2 W (hc.cell 0) hb2);have H3:=qz (fun W (hc:Ah W w.heap.size 9 #[.string s]) hB=>Sw ⟨w.heap.size,0,none⟩ s b3 W (hc.cell 0) hb3 hs (hT.below hB));have HE:=qz hE;clear hE;clear hb1 hb2 hb3 hT;go_enter Tryz.func63,Tryz.ntmps63;go_wp2_with (fail);(with_reducible refine(Sx s _).mono ?_);rintro e w1 ⟨rfl,rfl⟩;go_wp2_with (fail);refine wp_loop_rounds 4 ?_
 cases b1 with
 |true=>
  rw[rounds_succ];go_wp2_with (go_at_call 166;refine(H1.out _ ?_).mono ?_;(repeat (first|exact Ah.new _ _ _|refine Ah.alloc ?_ _));rintro e w2 ⟨rfl,rfl⟩);go_ret;exact⟨by rw[HE.out];rfl,by go_grown⟩
 |false=>
  rw[rounds_succ];go_wp2_with (go_at_call 166;refine(H1.out _ ?_).mono ?_;(repeat (first|exact Ah.new _ _ _|refine Ah.alloc ?_ _));rintro e w2 ⟨rfl,rfl⟩);rw[rounds_succ]
  cases b2 with
  |true=>
   go_wp2_with (go_at_call 167;refine(H2.out _ ?_).mono ?_;(repeat (first|exact Ah.new _ _ _|refine Ah.alloc ?_ _));rintro e w2 ⟨rfl,rfl⟩);go_ret;exact⟨by rw[HE.out];rfl,by go_grown⟩
  |false=>
   go_wp2_with (go_at_call 167;refine(H2.out _ ?_).mono ?_;(repeat (first|exact Ah.new _ _ _|refine Ah.alloc ?_ _));rintro e w2 ⟨rfl,rfl⟩);rw[rounds_succ]
   cases b3 with
   |false=>
    go_wp2_with (go_at_call 168;refine(H3.out _ ?_ ?_).mono ?_;(repeat (first|exact Ah.new _ _ _|refine Ah.alloc ?_ _));(go_grown);rintro e w2 ⟨rfl,hb2⟩;obtain⟨hc2,hf2⟩:=Et hb2);go_ret;exact⟨by rw[HE.out];rfl,((((Aa _ _).alloc (by simp) _).alloc (by simp;omega) _).alloc (by simp;omega) _).alloc (by simp;omega) _ |>.trans (hb2.mono (by simp;omega))⟩
   |true=>
    go_wp2_with (go_at_call 168;refine(H3.out _ ?_ ?_).mono ?_;(repeat (first|exact Ah.new _ _ _|refine Ah.alloc ?_ _));(go_grown);rintro e w2 ⟨rfl,hb2⟩;obtain⟨hc2,hf2⟩:=Et hb2);rw[rounds_succ];go_wp2;go_ret;exact⟨by rw[HE.out];rfl,((((Aa _ _).alloc (by simp) _).alloc (by simp;omega) _).alloc (by simp;omega) _).alloc (by simp;omega) _ |>.trans (hb2.mono (by simp;omega))⟩
end Go.Proofs.YtnkmhaachfgaoaaGreatDoor
