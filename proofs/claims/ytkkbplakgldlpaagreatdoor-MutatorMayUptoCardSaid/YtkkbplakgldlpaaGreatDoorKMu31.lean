/- Parts, joined: keys.May, and the reference's. Condition: texts shorter than 2^63. mutator.beginning, keyed, blank, strange. Condition: texts shorter than 10^9. The reference's word on a mutator's fields: zero, short, key, bare. Condition: values of a bulk of at most 10^8. -/
import Derived.Test.YtkkbplakgldlpaaGreatDoorProg
import Derived.Handy
import Derived.Laws.EntriesVeiled
import Derived.Test.YtkkbplakgldlpaaGreatDoorKMu1
import Derived.Test.YtkkbplakgldlpaaGreatDoorKMu4
import Derived.Test.YtkkbplakgldlpaaGreatDoorKMu13
import Derived.Test.YtkkbplakgldlpaaGreatDoorKMu14
import Derived.Test.YtkkbplakgldlpaaGreatDoorKMu22
import Derived.Test.YtkkbplakgldlpaaGreatDoorKMu25
namespace Go.Proofs.YtkkbplakgldlpaaGreatDoor
open Go.RowKit
theorem reason1_calls (a:Addr) (s:ByteArray) (B:Bool) (w:World) (hc:w.cell? a=some (.string s)) (h:s.toList.isEmpty=B):Calls Tryz.prog 186 #[.pointer (some a)] w fun e w'=>e=.returned (.bool B)∧w=w':=by
 subst h
 go_enter Tryz.func186,Tryz.ntmps186
 go_wp2
 go_ret
 exact⟨rfl,rfl⟩
theorem reason2_calls (a:Addr) (s:ByteArray) (B:Bool) (w:World) (hc:w.cell? a=some (.string s)) (h:decide (64<(s.size:Int))=B):Calls Tryz.prog 187 #[.pointer (some a)] w fun e w'=>e=.returned (.bool B)∧w=w':=by
 subst h
 go_enter Tryz.func187,Tryz.ntmps187
 go_wp2
 go_ret
 exact⟨rfl,rfl⟩
theorem reason3_calls (a:Addr) (s:ByteArray) (B:Bool) (w:World) (hc:w.cell? a=some (.string s)) (h:validB s=B) (hs:s.size≤9223372036854775807) (hT:Tabs w):Calls Tryz.prog 188 #[.pointer (some a)] w fun e w'=>e=.returned (.bool (!B))∧Below w.heap.size w w':=by
 have hU:=utfValid_calls2 h w hs hT
 have HU:=Lib.hid hU
 clear hU
 clear h hT
 go_enter Tryz.func188,Tryz.ntmps188
 go_wp2_with (go_at_call 133;refine HU.out.mono ?_;rintro e w1 ⟨rfl,hb1⟩)
 go_ret
 exact⟨rfl,hb1⟩
abbrev reasonCells (g:Nat):Array Value:= #[.int .i64 8,.func (.func 186) #[] #[.pointer (some ⟨g,0,none⟩)],.int .i64 6,.func (.func 187) #[] #[.pointer (some ⟨g,0,none⟩)],.int .i64 3,.func (.func 188) #[] #[.pointer (some ⟨g,0,none⟩)]]
theorem reasons_calls (s:ByteArray) (w:World):Calls Tryz.prog 160 #[.string s] w fun e w'=>e=.returned (.slice (some ⟨w.heap.size+1,0,none⟩) 3 3)∧w'=(w.alloc (.cells #[.string s] 9)).alloc (.cells (reasonCells w.heap.size) 181):=by
 go_enter Tryz.func160,Tryz.ntmps160
 go_wp2
 go_ret
 exact⟨rfl,rfl⟩
set_option maxRecDepth 100000 in
set_option maxHeartbeats 1000000 in
theorem keysMay_calls (s:ByteArray) (w:World) (hT:Tabs w) (hs:s.size≤9223372036854775807):Calls Tryz.prog 103 #[.string s] w fun e w'=>e=.returned (.int .i64 (keyE s))∧Below w.heap.size w w':=by
 obtain⟨b1,hb1⟩: ∃b,s.toList.isEmpty=b:=⟨_,rfl⟩
 obtain⟨b2,hb2⟩: ∃b,decide (64<(s.size:Int))=b:=⟨_,rfl⟩
 obtain⟨b3,hb3⟩: ∃b,validB s=b:=⟨_,rfl⟩
 have hE:keyE s=if b1 then 8 else if b2 then 6 else if b3 then 0 else 3:=by
  unfold keyE
  rw[hb1,hb3,←hb2]
  by_cases h:64<s.size
  · have h':64<(s.size:Int):=by omega
    simp[h,h']
  · have h': ¬64<(s.size:Int):=by omega
    simp[h,h']
 have h1:=fun W (hc:Blk W w.heap.size 9 #[.string s])=>reason1_calls ⟨w.heap.size,0,none⟩ s b1 W (hc.cell 0) hb1
 have h2:=fun W (hc:Blk W w.heap.size 9 #[.string s])=>reason2_calls ⟨w.heap.size,0,none⟩ s b2 W (hc.cell 0) hb2
 have h3:=fun W (hc:Blk W w.heap.size 9 #[.string s]) hB=>reason3_calls ⟨w.heap.size,0,none⟩ s b3 W (hc.cell 0) hb3 hs (hT.below hB)
 have H1:=Lib.hid h1
 have H2:=Lib.hid h2
 have H3:=Lib.hid h3
 have HE:=Lib.hid hE
 clear h1 h2 h3 hE
 clear hb1 hb2 hb3 hT
 go_enter Tryz.func103,Tryz.ntmps103
 go_wp2_with (fail)
 with_reducible refine(reasons_calls s _).mono ?_
 rintro e w1 ⟨rfl,rfl⟩
 go_wp2_with (fail)
 refine wp_loop_rounds 4 ?_
 cases b1 with
 |true=>
  rw[rounds_succ]
  go_wp2_with (go_at_call 186;refine(H1.out _ ?_).mono ?_;(repeat (first|exact Blk.new _ _ _|refine Blk.alloc ?_ _));rintro e w2 ⟨rfl,rfl⟩)
  go_ret
  exact⟨by rw[HE.out];rfl,by go_grown⟩
 |false=>
  rw[rounds_succ]
  go_wp2_with (go_at_call 186;refine(H1.out _ ?_).mono ?_;(repeat (first|exact Blk.new _ _ _|refine Blk.alloc ?_ _));rintro e w2 ⟨rfl,rfl⟩)
  rw[rounds_succ]
  cases b2 with
  |true=>
   go_wp2_with (go_at_call 187;refine(H2.out _ ?_).mono ?_;(repeat (first|exact Blk.new _ _ _|refine Blk.alloc ?_ _));rintro e w2 ⟨rfl,rfl⟩)
   go_ret
   exact⟨by rw[HE.out];rfl,by go_grown⟩
  |false=>
   go_wp2_with (go_at_call 187;refine(H2.out _ ?_).mono ?_;(repeat (first|exact Blk.new _ _ _|refine Blk.alloc ?_ _));rintro e w2 ⟨rfl,rfl⟩)
   rw[rounds_succ]
   cases b3 with
   |false=>
    go_wp2_with (go_at_call 188;refine(H3.out _ ?_ ?_).mono ?_;(repeat (first|exact Blk.new _ _ _|refine Blk.alloc ?_ _));(go_grown);rintro e w2 ⟨rfl,hb2⟩;obtain⟨hc2,hf2⟩:=bcell hb2)
    go_ret
    exact⟨by rw[HE.out];rfl,((((alloc_below _ _).alloc (by simp) _).alloc (by simp;omega) _).alloc (by simp;omega) _).alloc (by simp;omega) _ |>.trans (hb2.mono (by simp;omega))⟩
   |true=>
    go_wp2_with (go_at_call 188;refine(H3.out _ ?_ ?_).mono ?_;(repeat (first|exact Blk.new _ _ _|refine Blk.alloc ?_ _));(go_grown);rintro e w2 ⟨rfl,hb2⟩;obtain⟨hc2,hf2⟩:=bcell hb2)
    rw[rounds_succ]
    go_wp2
    go_ret
    exact⟨by rw[HE.out];rfl,((((alloc_below _ _).alloc (by simp) _).alloc (by simp;omega) _).alloc (by simp;omega) _).alloc (by simp;omega) _ |>.trans (hb2.mono (by simp;omega))⟩
end Go.Proofs.YtkkbplakgldlpaaGreatDoor

namespace Go.Proofs.YtkkbplakgldlpaaGreatDoor
open Go.RowKit
set_option maxRecDepth 100000 in
theorem beginning_calls (s:ByteArray) (w:World) (hT:Tabs w) (hs:s.size≤1000000000):Calls Tryz.prog 102 #[.string s] w fun e w'=>e=.returned (.bool (shortB s))∧Below w.heap.size w w':=by
 obtain⟨B,hB⟩: ∃B,validB s=B:=⟨_,rfl⟩
 have hC:=fun(W:World) hT=>utfValid_calls2 hB W (by omega) hT
 by_cases h1:s.size≤64
 · have hE:shortB s=B:=by unfold shortB;rw[hB];simp[h1]
   have t1:(s.size:Int)≤64:=by omega
   have HC:=Lib.hid hC
   have HE:=Lib.hid hE
   have HT:=Lib.hid hT
   clear hC hE hT
   clear h1
   go_enter Tryz.func102,Tryz.ntmps102
   go_wp2_with (go_at_call 133;(with_reducible refine(HC.out _ HT.out).mono ?_);rintro e w2 ⟨rfl,hb2⟩)
   go_ret
   exact⟨by rw[HE.out];rfl,hb2⟩
 · have hE:shortB s=false:=by unfold shortB;simp[h1]
   have t1:(64:Int)<(s.size:Int):=by omega
   have HE:=Lib.hid hE
   clear hE
   clear h1 hC
   go_enter Tryz.func102,Tryz.ntmps102
   go_wp2
   go_ret
   exact⟨by rw[HE.out];rfl,Below.refl _ _⟩
theorem isEmpty_eq (s:ByteArray):s.toList.isEmpty=decide (s=⟨#[]⟩):=by
 rw[Bool.eq_iff_iff,List.isEmpty_iff,decide_eq_true_eq,Lib.toList_data]
 constructor
 · intro h;exact ByteArray.ext (Array.ext' h)
 · rintro rfl;rfl
set_option maxRecDepth 100000 in
set_option maxHeartbeats 1000000 in
theorem keyed_calls (k:Int) (key dst:ByteArray) (had:Bool) (y3 y5 y6 y7 y8 y9 y10 y11 y12 y13 y14 y15 y16 y17 y18:Value) (w:World) (hT:Tabs w) (h1:key.size≤1000000000) (h2:dst.size≤1000000000):
 Calls Tryz.prog 61 #[.agg #[.int .i64 k,.string key,.string dst,y3,.bool had,y5,y6,y7,y8,y9,y10,y11,y12,y13,y14,y15,y16,y17,y18]] w fun e w'=>e=.returned (.bool (keyedB k key dst had))∧Below w.heap.size w w':=by
 have hb0:=alloc_below w (.cells #[.int .i64 k,.string key,.string dst,y3,.bool had,y5,y6,y7,y8,y9,y10,y11,y12,y13,y14,y15,y16,y17,y18] 30)
 have hT1:=hT.below hb0
 by_cases e6:k=6
 · subst e6
   have hE:keyedB 6 key dst had=(shortB key&&shortB dst):=by unfold keyedB;rw[if_pos rfl]
   have hC:=fun(W:World) hT=>beginning_calls key W hT h1
   have hD:=fun(W:World) hT=>beginning_calls dst W hT h2
   have hxb:=Blk.new w 30 #[.int .i64 6,.string key,.string dst,y3,.bool had,y5,y6,y7,y8,y9,y10,y11,y12,y13,y14,y15,y16,y17,y18]
   rw[hE]
   generalize shortB key=B at hC ⊢
   generalize shortB dst=B' at hD ⊢
   have HC:=Lib.hid hC
   have HD:=Lib.hid hD
   have HT1:=Lib.hid hT1
   have Hb0:=Lib.hid hb0
   have Hxb:=Lib.hid hxb
   clear hC hD hT1 hb0 hxb
   clear hE hT
   cases B with
   |false=>
    go_enter Tryz.func61,Tryz.ntmps61
    go_wp2_with (go_at_call 102;(with_reducible refine(HC.out _ HT1.out).mono ?_);rintro e w2 ⟨rfl,hb2⟩)
    go_ret
    exact⟨rfl,Hb0.out.trans (hb2.mono Hb0.out.size)⟩
   |true=>
    go_enter Tryz.func61,Tryz.ntmps61
    go_wp2_with (fail)
    with_reducible refine(HC.out _ HT1.out).mono ?_
    rintro e w2 ⟨rfl,hb2⟩
    obtain⟨hc2,hg2⟩:=bcellM hb2
    have hlt:=Hxb.out.lt
    have hT2:=HT1.out.below hb2
    go_wp2_with (fail)
    with_reducible refine(HD.out _ hT2).mono ?_
    rintro e w3 ⟨rfl,hb3⟩
    go_wp2
    go_ret
    exact⟨by simp,(Hb0.out.trans (hb2.mono Hb0.out.size)).trans (hb3.mono (Nat.le_trans Hb0.out.size hb2.size))⟩
 by_cases e7:k=7∧key.toList.isEmpty=true
 · obtain⟨rfl,hk⟩:=e7
   have hE:keyedB 7 key dst had= !had:=by unfold keyedB;rw[if_neg (by omega),if_pos ⟨rfl,hk⟩]
   rw[isEmpty_eq,decide_eq_true_eq]at hk
   subst hk
   rw[hE]
   have Hb0:=Lib.hid hb0
   clear hb0
   clear hE hT hT1
   go_enter Tryz.func61,Tryz.ntmps61
   go_wp2
   go_ret
   exact⟨rfl,Hb0.out⟩
 have hE:keyedB k key dst had=decide (keyE key=0):=by
  unfold keyedB
  rw[if_neg e6,if_neg e7,Bool.eq_iff_iff,decide_eq_true_eq,keyE_zero]
 have hC:=fun(W:World) hT=>keysMay_calls key W hT (by omega)
 have t6:(k==6)=false:=by simpa using e6
 have hxb:=Blk.new w 30 #[.int .i64 k,.string key,.string dst,y3,.bool had,y5,y6,y7,y8,y9,y10,y11,y12,y13,y14,y15,y16,y17,y18]
 rw[hE]
 generalize keyE key=X at hC ⊢
 by_cases k7:k=7
 · subst k7
   have t8:key.toList.isEmpty=false:=by cases e:key.toList.isEmpty;rfl;exact absurd ⟨rfl,e⟩ e7
   have HC:=Lib.hid hC
   have HT1:=Lib.hid hT1
   have Hb0:=Lib.hid hb0
   have Hxb:=Lib.hid hxb
   clear hC hT1 hb0 hxb
   clear hE hT e6 e7
   go_enter Tryz.func61,Tryz.ntmps61
   go_wp2_with (go_at_call 103;(with_reducible refine(HC.out _ HT1.out).mono ?_);rintro e w2 ⟨rfl,hb2⟩)
   go_ret
   exact⟨by simp[beq_dec],Hb0.out.trans (hb2.mono Hb0.out.size)⟩
 · have t7:(k==7)=false:=by simpa using k7
   have HC:=Lib.hid hC
   have HT1:=Lib.hid hT1
   have Hb0:=Lib.hid hb0
   have Hxb:=Lib.hid hxb
   clear hC hT1 hb0 hxb
   clear hE hT e6 e7 k7
   go_enter Tryz.func61,Tryz.ntmps61
   go_wp2_with (go_at_call 103;(with_reducible refine(HC.out _ HT1.out).mono ?_);rintro e w2 ⟨rfl,hb2⟩)
   go_ret
   exact⟨by simp[beq_dec],Hb0.out.trans (hb2.mono Hb0.out.size)⟩
def blankB (key dst:ByteArray) (n:Int) (had z1 has z2:Bool) (ln:Nat):Bool:=key.toList.isEmpty&&dst.toList.isEmpty&&decide (n=0)&& !had&&z1&& !has&&z2&&decide (ln=0)
set_option maxRecDepth 100000 in
set_option maxHeartbeats 2000000 in
theorem blank_calls (k:Int) (key dst:ByteArray) (n:Int) (had:Bool) (k1:Int) (b1:Bool) (n1:Int) (t1:ByteArray) (la1 oa1:Option Addr) (p1 lc1 q1 oc1:Nat) (has:Bool) (k2:Int) (b2:Bool) (n2:Int) (t2:ByteArray) (la2 oa2:Option Addr) (p2 lc2 q2 oc2:Nat) (a:Option Addr) (ln c:Nat) (w:World):
 Calls Tryz.prog 101 #[.agg #[.int .i64 k,.string key,.string dst,.int .i64 n,.bool had,.int .i64 k1,.bool b1,.int .i64 n1,.string t1,.slice la1 p1 lc1,.slice oa1 q1 oc1,.bool has,.int .i64 k2,.bool b2,.int .i64 n2,.string t2,.slice la2 p2 lc2,.slice oa2 q2 oc2,.slice a ln c]] w fun e w'=>
  e=.returned (.bool (blankB key dst n had (zero6B k1 b1 n1 t1 p1 q1) has (zero6B k2 b2 n2 t2 p2 q2) ln))∧Below w.heap.size w w':=by
 have h1:=fun W=>mzero_calls k1 b1 n1 t1 la1 oa1 p1 lc1 q1 oc1 _ W rfl
 have h2:=fun W=>mzero_calls k2 b2 n2 t2 la2 oa2 p2 lc2 q2 oc2 _ W rfl
 generalize zero6B k1 b1 n1 t1 p1 q1=Z1 at h1 ⊢
 generalize zero6B k2 b2 n2 t2 p2 q2=Z2 at h2 ⊢
 by_cases c0:key.toList.isEmpty=true
 rotate_left
 · have u0:key.toList.isEmpty=false:=by simpa using c0
   have hE:blankB key dst n had Z1 has Z2 ln=false:=by simp[blankB,c0]
   rw[hE]
   have H1:=Lib.hid h1
   have H2:=Lib.hid h2
   clear h1 h2
   clear hE
   go_enter Tryz.func101,Tryz.ntmps101
   go_wp2
   go_ret
   exact⟨rfl,alloc_below _ _⟩
 by_cases c1:dst.toList.isEmpty=true
 rotate_left
 · have u1:dst.toList.isEmpty=false:=by simpa using c1
   have hE:blankB key dst n had Z1 has Z2 ln=false:=by simp[blankB,c0,c1]
   rw[hE]
   have H1:=Lib.hid h1
   have H2:=Lib.hid h2
   clear h1 h2
   clear hE
   go_enter Tryz.func101,Tryz.ntmps101
   go_wp2
   go_ret
   exact⟨rfl,alloc_below _ _⟩
 by_cases c2:n=0
 rotate_left
 · have u2:(n==0)=false:=by simpa using c2
   have hE:blankB key dst n had Z1 has Z2 ln=false:=by simp[blankB,c0,c1,c2]
   rw[hE]
   have H1:=Lib.hid h1
   have H2:=Lib.hid h2
   clear h1 h2
   clear hE
   go_enter Tryz.func101,Tryz.ntmps101
   go_wp2
   go_ret
   exact⟨rfl,alloc_below _ _⟩
 subst c2
 by_cases c3:had=false
 rotate_left
 · have u3:had=true:=by simpa using c3
   subst u3
   have hE:blankB key dst 0 true Z1 has Z2 ln=false:=by simp[blankB]
   rw[hE]
   have H1:=Lib.hid h1
   have H2:=Lib.hid h2
   clear h1 h2
   clear hE
   go_enter Tryz.func101,Tryz.ntmps101
   go_wp2
   go_ret
   exact⟨rfl,alloc_below _ _⟩
 subst c3
 by_cases c4:Z1=true
 rotate_left
 · have u4:Z1=false:=by simpa using c4
   subst u4
   have hE:blankB key dst 0 false false has Z2 ln=false:=by simp[blankB]
   rw[hE]
   have H1:=Lib.hid h1
   have H2:=Lib.hid h2
   clear h1 h2
   clear hE
   go_enter Tryz.func101,Tryz.ntmps101
   go_wp2_with (fail)
   with_reducible refine(H1.out _).mono ?_
   rintro e w2 ⟨rfl,hb2⟩
   have hlt2:w.heap.size<w2.heap.size:=by(have:=hb2.size;simp at this;omega)
   obtain⟨hc2,hg2⟩:=bcellM hb2
   go_wp2
   go_ret
   exact⟨rfl,(alloc_below _ _).trans (hb2.mono (by simp))⟩
 subst c4
 by_cases c5:has=false
 rotate_left
 · have u5:has=true:=by simpa using c5
   subst u5
   have hE:blankB key dst 0 false true true Z2 ln=false:=by simp[blankB]
   rw[hE]
   have H1:=Lib.hid h1
   have H2:=Lib.hid h2
   clear h1 h2
   clear hE
   go_enter Tryz.func101,Tryz.ntmps101
   go_wp2_with (fail)
   with_reducible refine(H1.out _).mono ?_
   rintro e w2 ⟨rfl,hb2⟩
   have hlt2:w.heap.size<w2.heap.size:=by(have:=hb2.size;simp at this;omega)
   obtain⟨hc2,hg2⟩:=bcellM hb2
   go_wp2
   go_ret
   exact⟨rfl,(alloc_below _ _).trans (hb2.mono (by simp))⟩
 subst c5
 by_cases c6:Z2=true
 rotate_left
 · have u6:Z2=false:=by simpa using c6
   subst u6
   have hE:blankB key dst 0 false true false false ln=false:=by simp[blankB]
   rw[hE]
   have H1:=Lib.hid h1
   have H2:=Lib.hid h2
   clear h1 h2
   clear hE
   go_enter Tryz.func101,Tryz.ntmps101
   go_wp2_with (fail)
   with_reducible refine(H1.out _).mono ?_
   rintro e w2 ⟨rfl,hb2⟩
   have hlt2:w.heap.size<w2.heap.size:=by(have:=hb2.size;simp at this;omega)
   obtain⟨hc2,hg2⟩:=bcellM hb2
   go_wp2_with (fail)
   with_reducible refine(H2.out _).mono ?_
   rintro e w3 ⟨rfl,hb3⟩
   obtain⟨hc3,hg3⟩:=bcellM hb3
   go_wp2
   go_ret
   exact⟨rfl,((alloc_below _ _).trans (hb2.mono (by simp))).trans (hb3.mono (by omega))⟩
 subst c6
 by_cases c7:ln=0
 rotate_left
 · have u7:((ln:Int)==0)=false:=by simpa using c7
   have hE:blankB key dst 0 false true false true ln=false:=by simp[blankB,c7]
   rw[hE]
   have H1:=Lib.hid h1
   have H2:=Lib.hid h2
   clear h1 h2
   clear hE
   go_enter Tryz.func101,Tryz.ntmps101
   go_wp2_with (fail)
   with_reducible refine(H1.out _).mono ?_
   rintro e w2 ⟨rfl,hb2⟩
   have hlt2:w.heap.size<w2.heap.size:=by(have:=hb2.size;simp at this;omega)
   obtain⟨hc2,hg2⟩:=bcellM hb2
   go_wp2_with (fail)
   with_reducible refine(H2.out _).mono ?_
   rintro e w3 ⟨rfl,hb3⟩
   obtain⟨hc3,hg3⟩:=bcellM hb3
   go_wp2
   go_ret
   exact⟨rfl,((alloc_below _ _).trans (hb2.mono (by simp))).trans (hb3.mono (by omega))⟩
 subst c7
 have hE:blankB key dst 0 false true false true 0=true:=by simp[blankB,c0,c1]
 rw[hE]
 have H1:=Lib.hid h1
 have H2:=Lib.hid h2
 clear h1 h2
 clear hE
 go_enter Tryz.func101,Tryz.ntmps101
 go_wp2_with (fail)
 with_reducible refine(H1.out _).mono ?_
 rintro e w2 ⟨rfl,hb2⟩
 have hlt2:w.heap.size<w2.heap.size:=by(have:=hb2.size;simp at this;omega)
 obtain⟨hc2,hg2⟩:=bcellM hb2
 go_wp2_with (fail)
 with_reducible refine(H2.out _).mono ?_
 rintro e w3 ⟨rfl,hb3⟩
 obtain⟨hc3,hg3⟩:=bcellM hb3
 go_wp2
 go_ret
 exact⟨rfl,((alloc_below _ _).trans (hb2.mono (by simp))).trans (hb3.mono (by omega))⟩
end Go.Proofs.YtkkbplakgldlpaaGreatDoor

namespace Go.Proofs.YtkkbplakgldlpaaGreatDoor
open Go.RowKit
set_option maxRecDepth 100000 in
theorem r11zero_calls (v:Val) (cs:List Value) (w:World) (hV:HoldsV w w.heap.size v cs) (hb:v.bulk≤100000000) {B:Bool} (hB:zeroB v=B):
 Calls Tryz.prog 105 #[.agg cs.toArray] w fun e w'=>e=.returned (.bool B)∧Below w.heap.size w w':=by
 obtain⟨k,b,n,t,l,o⟩:=v
 have hV':=hV
 simp only[HoldsV]at hV'
 obtain⟨la,lc,oa,oc,rfl,_,_⟩:=hV'
 have hb0:=alloc_below w (.cells #[.int .i64 k,.bool b,.int .i64 n,.string t,.slice la l.length lc,.slice oa o.length oc] 27)
 have hC:=rzero_calls _ _ _ (HoldsV.more hb0.size _ _ (hV.below hb0)) hb hB
 have HC:=Lib.hid hC
 have Hb0:=Lib.hid hb0
 clear hC hb0
 clear hV hB
 go_enter Tryz.func105,Tryz.ntmps105
 go_wp2_with (fail)
 with_reducible refine(HC.out).mono ?_
 rintro e w1 ⟨rfl,hb1⟩
 go_wp2
 go_ret
 exact⟨rfl,Hb0.out.trans (hb1.mono Hb0.out.size)⟩
set_option maxRecDepth 100000 in
theorem rshort_calls (s:ByteArray) (w:World) (hs:s.size≤1000000000):Calls Tryz.prog 106 #[.string s] w fun e w'=>e=.returned (.bool (shortB s))∧Below w.heap.size w w':=by
 obtain⟨B,hB⟩: ∃B,validB s=B:=⟨_,rfl⟩
 have hC:=fun(W:World)=>RValid_calls2 hB W (by omega)
 by_cases h1:s.size≤64
 · have hE:shortB s=B:=by unfold shortB;rw[hB];simp[h1]
   have t1:(s.size:Int)≤64:=by omega
   have HC:=Lib.hid hC
   have HE:=Lib.hid hE
   clear hC hE
   clear h1
   go_enter Tryz.func106,Tryz.ntmps106
   go_wp2_with (fail)
   with_reducible refine(HC.out _).mono ?_
   rintro e w2 ⟨rfl,rfl⟩
   go_wp2
   go_ret
   exact⟨by rw[HE.out];rfl,Below.refl _ _⟩
 · have hE:shortB s=false:=by unfold shortB;simp[h1]
   have t1:(64:Int)<(s.size:Int):=by omega
   have HE:=Lib.hid hE
   clear hE
   clear h1 hC
   go_enter Tryz.func106,Tryz.ntmps106
   go_wp2
   go_ret
   exact⟨by rw[HE.out];rfl,Below.refl _ _⟩
set_option maxRecDepth 100000 in
set_option maxHeartbeats 1000000 in
theorem r11key_calls (k:Int) (key dst:ByteArray) (had:Bool) (y3 y5 y6 y7 y8 y9 y10 y11 y12 y13 y14 y15 y16 y17 y18:Value) (w:World) (h1:key.size≤1000000000) (h2:dst.size≤1000000000):
 Calls Tryz.prog 65 #[.agg #[.int .i64 k,.string key,.string dst,y3,.bool had,y5,y6,y7,y8,y9,y10,y11,y12,y13,y14,y15,y16,y17,y18]] w fun e w'=>e=.returned (.bool (keyedB k key dst had))∧Below w.heap.size w w':=by
 by_cases e6:k=6
 · subst e6
   have hE:keyedB 6 key dst had=(shortB key&&shortB dst):=by unfold keyedB;rw[if_pos rfl]
   have hC:=fun(W:World)=>rshort_calls key W h1
   have hD:=fun(W:World)=>rshort_calls dst W h2
   rw[hE]
   generalize shortB key=B at hC ⊢
   generalize shortB dst=B' at hD ⊢
   have HC:=Lib.hid hC
   have HD:=Lib.hid hD
   clear hC hD
   clear hE
   cases B with
   |false=>
    go_enter Tryz.func65,Tryz.ntmps65
    go_wp2_with (fail)
    with_reducible refine(HC.out _).mono ?_
    rintro e w2 ⟨rfl,hb2⟩
    go_wp2
    go_ret
    exact⟨rfl,(alloc_below _ _).trans (hb2.mono (by simp))⟩
   |true=>
    go_enter Tryz.func65,Tryz.ntmps65
    go_wp2_with (fail)
    with_reducible refine(HC.out _).mono ?_
    rintro e w2 ⟨rfl,hb2⟩
    have hlt2:w.heap.size<w2.heap.size:=by(have:=hb2.size;simp at this;omega)
    obtain⟨hc2,hg2⟩:=bcellM hb2
    go_wp2_with (fail)
    with_reducible refine(HD.out _).mono ?_
    rintro e w3 ⟨rfl,hb3⟩
    go_wp2
    go_ret
    exact⟨by simp,((alloc_below _ _).trans (hb2.mono (by simp))).trans (hb3.mono (by omega))⟩
 have t6:(k==6)=false:=by simpa using e6
 by_cases e7:k=7∧key.toList.isEmpty=true
 · obtain⟨rfl,hk⟩:=e7
   have hE:keyedB 7 key dst had= !had:=by unfold keyedB;rw[if_neg (by omega),if_pos ⟨rfl,hk⟩]
   rw[isEmpty_eq,decide_eq_true_eq]at hk
   subst hk
   rw[hE]
   clear hE
   go_enter Tryz.func65,Tryz.ntmps65
   go_wp2
   go_ret
   exact⟨rfl,alloc_below _ _⟩
 have hE:keyedB k key dst had=decide (keyE key=0):=by
  unfold keyedB
  rw[if_neg e6,if_neg e7,Bool.eq_iff_iff,decide_eq_true_eq,keyE_zero]
 have hC:=fun(W:World)=>rkey_calls key W h1
 rw[hE]
 generalize keyE key=X at hC ⊢
 by_cases k7:k=7
 · subst k7
   have t8:key.toList.isEmpty=false:=by cases e:key.toList.isEmpty;rfl;exact absurd ⟨rfl,e⟩ e7
   have HC:=Lib.hid hC
   clear hC
   clear hE e6 e7
   go_enter Tryz.func65,Tryz.ntmps65
   go_wp2_with (fail)
   with_reducible refine(HC.out _).mono ?_
   rintro e w2 ⟨rfl,rfl⟩
   go_wp2
   go_ret
   exact⟨by simp[beq_dec],alloc_below _ _⟩
 · have t7:(k==7)=false:=by simpa using k7
   have HC:=Lib.hid hC
   clear hC
   clear hE e6 e7 k7
   go_enter Tryz.func65,Tryz.ntmps65
   go_wp2_with (fail)
   with_reducible refine(HC.out _).mono ?_
   rintro e w2 ⟨rfl,rfl⟩
   go_wp2
   go_ret
   exact⟨by simp[beq_dec],alloc_below _ _⟩
end Go.Proofs.YtkkbplakgldlpaaGreatDoor
