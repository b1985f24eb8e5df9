/- Parts, joined: mutator.strange: has a mutator something that its Kind does not name? Condition: none. mutator.look: what is the first thing wrong with a mutator leaves by a panic. Condition: a bulk of at most 10^8. -/
import Derived.Test.YtkkbplakgldlpaaGreatDoorProg
import Derived.Test.YtkkbplakgldlpaaGreatDoorKMu22
import Derived.Test.YtkkbplakgldlpaaGreatDoorKMu25
import Derived.Test.YtkkbplakgldlpaaGreatDoorKMu30
import Derived.Test.YtkkbplakgldlpaaGreatDoorKMu31
namespace Go.Proofs.YtkkbplakgldlpaaGreatDoor
open Go.RowKit
theorem zero6_none:zero6B 0 false 0 ⟨#[]⟩ 0 0=true:=by simp[zero6B,Lib.toList_data]
set_option maxRecDepth 100000 in
set_option maxHeartbeats 8000000 in
theorem mstrange_calls (k:Int) (key dst:ByteArray) (n:Int) (had:Bool) (k1:Int) (b1:Bool) (n1:Int) (t1:ByteArray) (l1:List Val) (o1:List (ByteArray×Val)) (has:Bool) (k2:Int) (b2:Bool) (n2:Int) (t2:ByteArray) (l2:List Val) (o2:List (ByteArray×Val)) (l:List Mut) (la1:Option Addr) (lc1:Nat) (oa1:Option Addr) (oc1:Nat) (la2:Option Addr) (lc2:Nat) (oa2:Option Addr) (oc2:Nat) (a:Option Addr) (c:Nat) (w:World):
 Calls Tryz.prog 60 #[.agg #[.int .i64 k,.string key,.string dst,.int .i64 n,.bool had,.int .i64 k1,.bool b1,.int .i64 n1,.string t1,.slice la1 l1.length lc1,.slice oa1 o1.length oc1,.bool has,.int .i64 k2,.bool b2,.int .i64 n2,.string t2,.slice la2 l2.length lc2,.slice oa2 o2.length oc2,.slice a l.length c]] w fun e w'=>e=.returned (.bool (strangeF k dst n had (zeroB (.mk k1 b1 n1 t1 l1 o1)) has (zeroB (.mk k2 b2 n2 t2 l2 o2)) l.length))∧Below w.heap.size w w':=by
 have q1:zeroB (.mk k1 b1 n1 t1 l1 o1)=zero6B k1 b1 n1 t1 l1.length o1.length:=rfl
 have q2:zeroB (.mk k2 b2 n2 t2 l2 o2)=zero6B k2 b2 n2 t2 l2.length o2.length:=rfl
 rw[q1,q2]
 clear q1 q2
 obtain⟨Z1,hZ1⟩: ∃Z,zero6B k1 b1 n1 t1 l1.length o1.length=Z:=⟨_,rfl⟩
 obtain⟨Z2,hZ2⟩: ∃Z,zero6B k2 b2 n2 t2 l2.length o2.length=Z:=⟨_,rfl⟩
 have h1:=fun W=>mzero_calls k1 b1 n1 t1 la1 oa1 l1.length lc1 o1.length oc1 Z1 W hZ1
 have h2:=fun W=>mzero_calls k2 b2 n2 t2 la2 oa2 l2.length lc2 o2.length oc2 Z2 W hZ2
 rw[hZ1,hZ2]
 obtain⟨S,hS⟩: ∃S,strangeF k dst n had Z1 has Z2 l.length=S:=⟨_,rfl⟩
 rw[hS]
 obtain⟨wi,hwi⟩: ∃wi,w.alloc (.cells #[.int .i64 k,.string key,.string dst,.int .i64 n,.bool had,.int .i64 k1,.bool b1,.int .i64 n1,.string t1,.slice la1 l1.length lc1,.slice oa1 o1.length oc1,.bool has,.int .i64 k2,.bool b2,.int .i64 n2,.string t2,.slice la2 l2.length lc2,.slice oa2 o2.length oc2,.slice a l.length c] 30)=wi:=⟨_,rfl⟩
 have hbi:Below w.heap.size w wi:=hwi▸alloc_below _ _
 have hxb:Blk wi w.heap.size 30 #[.int .i64 k,.string key,.string dst,.int .i64 n,.bool had,.int .i64 k1,.bool b1,.int .i64 n1,.string t1,.slice la1 l1.length lc1,.slice oa1 o1.length oc1,.bool has,.int .i64 k2,.bool b2,.int .i64 n2,.string t2,.slice la2 l2.length lc2,.slice oa2 o2.length oc2,.slice a l.length c]:=hwi▸Blk.new _ _ _
 have hgb:=hxb.lt
 obtain⟨y0,y1,y2,y3,y4,y5,y6,y7,y8,y9,y10,y11,y12,y13,y14,y15,y16,y17,y18⟩:=mcell19 hxb
 have H1:=Lib.hid h1
 have H2:=Lib.hid h2
 have Hxb:=Lib.hid hxb
 have Hbi:=Lib.hid hbi
 have HZ1:=Lib.hid hZ1
 have HZ2:=Lib.hid hZ2
 have HS:=Lib.hid hS
 clear h1 h2 hxb hbi hZ1 hZ2 hS
 go_enter Tryz.func60,Tryz.ntmps60
 go_upto_region 1 with(fail)
 clear hwi
 go_cut [12] (fun s wx=>s=.bool (!had&& !Z1)∧Hid (Below wi.heap.size wi wx))
 case first=>
  cases had with
  |true=>
   go_wp2
   go_meet
   exact⟨rfl,Below.refl _ _⟩
  |false=>
   go_wp2_with (fail)
   with_reducible refine(H1.out _).mono ?_
   rintro e w2 ⟨rfl,hb2⟩
   go_wp2
   go_meet
   exact⟨by simp,hb2⟩
 case rest=>
  obtain⟨rfl,hbx⟩:=hcut
  clear y0 y1 y2 y3 y4 y5 y6 y7 y8 y9 y10 y11 y12 y13 y14 y15 y16 y17 y18
  have hxc:=Hxb.out.below hbx.out Hxb.out.lt
  have hbw:=Hbi.out.trans (hbx.out.mono Hbi.out.size)
  have hgc:=hxc.lt
  obtain⟨y0,y1,y2,y3,y4,y5,y6,y7,y8,y9,y10,y11,y12,y13,y14,y15,y16,y17,y18⟩:=mcell19 hxc
  have Hxc:=Lib.hid hxc
  have Hbw:=Lib.hid hbw
  clear hxc hbw
  by_cases h0:(!had&& !Z1)=true
  · have hE:S=true:=by rw[←HS.out];unfold strangeF;rw[if_pos h0]
    rw[h0]
    go_wp2
    go_ret
    exact⟨by rw[hE];rfl,Hbw.out⟩
  have h00:(!had&& !Z1)=false:=by simpa using h0
  rw[h00]
  go_upto_region 3 with(fail)
  iterate 2 go_step
  refine wp_load_blk 30 (.tmp 1) rfl w.heap.size #[.int .i64 k,.string key,.string dst,.int .i64 n,.bool had,.int .i64 k1,.bool b1,.int .i64 n1,.string t1,.slice la1 l1.length lc1,.slice oa1 o1.length oc1,.bool has,.int .i64 k2,.bool b2,.int .i64 n2,.string t2,.slice la2 l2.length lc2,.slice oa2 o2.length oc2,.slice a l.length c] Hxc.out rfl _ Tryz.underlying30 rfl (by kernel_rfl) ?_
  iterate 5 go_step
  refine wp_store_new 30 (.tmp 3) (.tmp 13) rfl #[.int .i64 k,.string key,.string dst,.int .i64 n,.bool had,.int .i64 k1,.bool b1,.int .i64 n1,.string t1,.slice la1 l1.length lc1,.slice oa1 o1.length oc1,.bool has,.int .i64 k2,.bool b2,.int .i64 n2,.string t2,.slice la2 l2.length lc2,.slice oa2 o2.length oc2,.slice a l.length c] rfl rfl rfl (by kernel_rfl) (by simp[Value.oneCell']) ?_
  by_cases e1:k=1
  · subst e1
    have hE:S=(!blankB ⟨#[]⟩ dst n had Z1 has true l.length):=by rw[←HS.out];simp[strangeF,blankB,h00]
    have HE:=Lib.hid hE
    clear hE
    go_upto_region 21 with(fail)
    iterate 2 go_step
    refine wp_load_blk 30 (.tmp 3) rfl _ _ (Blk.new _ _ _) rfl _ Tryz.underlying30 rfl (by kernel_rfl) ?_
    go_wp2_with (go_at_call 101;(with_reducible refine(blank_calls _ _ _ _ _ _ _ _ _ _ _ _ _ _ _ _ _ _ _ _ _ _ _ _ _ _ _ _ _ _).mono ?_);rintro e w5 ⟨rfl,hb5⟩)
    go_ret
    refine⟨?_,Hbw.out.trans (((alloc_below _ _).trans (hb5.mono (by simp))).mono Hbw.out.size)⟩
    rw[HE.out]
    simp only[HZ1.out,zero6_none]
    rfl
  have tk1:(k==1)=false:=by simpa using e1
  by_cases e5:k=5
  · subst e5
    have hE:S=(!blankB ⟨#[]⟩ dst n had Z1 has true l.length):=by rw[←HS.out];simp[strangeF,blankB,h00]
    have HE:=Lib.hid hE
    clear hE
    go_upto_region 21 with(fail)
    iterate 2 go_step
    refine wp_load_blk 30 (.tmp 3) rfl _ _ (Blk.new _ _ _) rfl _ Tryz.underlying30 rfl (by kernel_rfl) ?_
    go_wp2_with (go_at_call 101;(with_reducible refine(blank_calls _ _ _ _ _ _ _ _ _ _ _ _ _ _ _ _ _ _ _ _ _ _ _ _ _ _ _ _ _ _).mono ?_);rintro e w5 ⟨rfl,hb5⟩)
    go_ret
    refine⟨?_,Hbw.out.trans (((alloc_below _ _).trans (hb5.mono (by simp))).mono Hbw.out.size)⟩
    rw[HE.out]
    simp only[HZ1.out,zero6_none]
    rfl
  have tk5:(k==5)=false:=by simpa using e5
  by_cases e2:k=2
  · subst e2
    have hE:S=(!blankB ⟨#[]⟩ dst n had Z1 has Z2 l.length):=by rw[←HS.out];simp[strangeF,blankB,h00]
    have HE:=Lib.hid hE
    clear hE
    go_upto_region 21 with(fail)
    iterate 2 go_step
    refine wp_load_blk 30 (.tmp 3) rfl _ _ (Blk.new _ _ _) rfl _ Tryz.underlying30 rfl (by kernel_rfl) ?_
    go_wp2_with (go_at_call 101;(with_reducible refine(blank_calls _ _ _ _ _ _ _ _ _ _ _ _ _ _ _ _ _ _ _ _ _ _ _ _ _ _ _ _ _ _).mono ?_);rintro e w5 ⟨rfl,hb5⟩)
    go_ret
    refine⟨?_,Hbw.out.trans (((alloc_below _ _).trans (hb5.mono (by simp))).mono Hbw.out.size)⟩
    rw[HE.out]
    simp only[HZ1.out,HZ2.out]
    rfl
  have tk2:(k==2)=false:=by simpa using e2
  by_cases e3:k=3
  · subst e3
    have hE:S=(!blankB ⟨#[]⟩ dst 0 had Z1 has Z2 l.length):=by rw[←HS.out];simp[strangeF,blankB,h00]
    have HE:=Lib.hid hE
    clear hE
    go_upto_region 21 with(fail)
    iterate 2 go_step
    refine wp_load_blk 30 (.tmp 3) rfl _ _ (Blk.new _ _ _) rfl _ Tryz.underlying30 rfl (by kernel_rfl) ?_
    go_wp2_with (go_at_call 101;(with_reducible refine(blank_calls _ _ _ _ _ _ _ _ _ _ _ _ _ _ _ _ _ _ _ _ _ _ _ _ _ _ _ _ _ _).mono ?_);rintro e w5 ⟨rfl,hb5⟩)
    go_ret
    refine⟨?_,Hbw.out.trans (((alloc_below _ _).trans (hb5.mono (by simp))).mono Hbw.out.size)⟩
    rw[HE.out]
    simp only[HZ1.out,HZ2.out]
    rfl
  have tk3:(k==3)=false:=by simpa using e3
  by_cases e4:k=4
  · subst e4
    by_cases e9:(!has&& !Z2)=true
    · have hE:S=true:=by rw[←HS.out];simp[strangeF,h00,e9]
      have HE:=Lib.hid hE
      clear hE
      obtain⟨rfl,rfl⟩:has=false∧Z2=false:=by simpa using e9
      go_wp2_with (fail)
      with_reducible refine(H2.out _).mono ?_
      rintro e w2 ⟨rfl,hb2⟩
      go_wp2
      go_ret
      exact⟨by rw[HE.out];rfl,Hbw.out.trans (((alloc_below _ _).trans (hb2.mono (by simp))).mono Hbw.out.size)⟩
    have hE:S=(!blankB ⟨#[]⟩ dst n false true false true l.length):=by rw[←HS.out];simp[strangeF,blankB,h00,e9]
    have HE:=Lib.hid hE
    clear hE
    cases has with
    |true=>
     go_upto_region 21 with(fail)
     iterate 2 go_step
     refine wp_load_blk 30 (.tmp 3) rfl _ _ (Blk.new _ _ _) rfl _ Tryz.underlying30 rfl (by kernel_rfl) ?_
     go_wp2_with (go_at_call 101;(with_reducible refine(blank_calls _ _ _ _ _ _ _ _ _ _ _ _ _ _ _ _ _ _ _ _ _ _ _ _ _ _ _ _ _ _).mono ?_);rintro e w5 ⟨rfl,hb5⟩)
     go_ret
     refine⟨?_,Hbw.out.trans (((alloc_below _ _).trans (hb5.mono (by simp))).mono Hbw.out.size)⟩
     rw[HE.out]
     simp only[zero6_none]
     rfl
    |false=>
     obtain rfl:Z2=true:=by simpa using e9
     go_wp2_with (fail)
     with_reducible refine(H2.out _).mono ?_
     rintro e w2 ⟨rfl,hb2⟩
     have hlt2:wc.heap.size<w2.heap.size:=by(have:=hb2.size;simp at this;omega)
     have hx2:=(Blk.new wc 30 #[.int .i64 4,.string key,.string dst,.int .i64 n,.bool had,.int .i64 k1,.bool b1,.int .i64 n1,.string t1,.slice la1 l1.length lc1,.slice oa1 o1.length oc1,.bool false,.int .i64 k2,.bool b2,.int .i64 n2,.string t2,.slice la2 l2.length lc2,.slice oa2 o2.length oc2,.slice a l.length c]).below hb2 (Blk.lt (Blk.new _ _ _))
     have hbw2:=Hbw.out.trans (((alloc_below _ _).trans (hb2.mono (by simp))).mono Hbw.out.size)
     have hle:=Hbw.out.size
     have Hx2:=Lib.hid hx2
     have Hbw2:=Lib.hid hbw2
     clear hx2 hbw2
     clear y0 y1 y2 y3 y4 y5 y6 y7 y8 y9 y10 y11 y12 y13 y14 y15 y16 y17 y18
     go_upto_region 16 with(fail)
     iterate 11 go_step
     refine wp_store_blk 9 (.tmp 42) _ rfl wc.heap.size 1 Hx2.out (.string ⟨#[]⟩) rfl rfl (Nat.le_of_ble_eq_true rfl) (by kernel_rfl) (by simp[Value.cells,Value.oneCell']) Hbw2.out hle ?_
     intro v0 hxv0 hbv0
     simp only[over,Value.cells,List.setIfInBounds_toArray,List.set_cons_succ,List.set_cons_zero]at hxv0
     iterate 5 go_step
     refine wp_store_blk 4 (.tmp 43) _ rfl wc.heap.size 4 hxv0 (.bool false) rfl rfl (Nat.le_of_ble_eq_true rfl) (by kernel_rfl) (by simp[Value.cells,Value.oneCell']) hbv0 hle ?_
     intro v1 hxv1 hbv1
     simp only[over,Value.cells,List.setIfInBounds_toArray,List.set_cons_succ,List.set_cons_zero]at hxv1
     iterate 5 go_step
     refine wp_store_blk 27 (.tmp 44) _ rfl wc.heap.size 5 hxv1 (.agg #[.int .i64 0,.bool false,.int .i64 0,.string ⟨#[]⟩,.slice none 0 0,.slice none 0 0]) rfl rfl (Nat.le_of_ble_eq_true rfl) (by kernel_rfl) (by simp[Value.cells,Value.oneCell']) hbv1 hle ?_
     intro v2 hxv2 hbv2
     simp only[over,Value.cells,List.setIfInBounds_toArray,List.set_cons_succ,List.set_cons_zero]at hxv2
     iterate 5 go_step
     refine wp_store_blk 4 (.tmp 45) _ rfl wc.heap.size 11 hxv2 (.bool false) rfl rfl (Nat.le_of_ble_eq_true rfl) (by kernel_rfl) (by simp[Value.cells,Value.oneCell']) hbv2 hle ?_
     intro v3 hxv3 hbv3
     simp only[over,Value.cells,List.setIfInBounds_toArray,List.set_cons_succ,List.set_cons_zero]at hxv3
     iterate 5 go_step
     refine wp_store_blk 27 (.tmp 46) _ rfl wc.heap.size 12 hxv3 (.agg #[.int .i64 0,.bool false,.int .i64 0,.string ⟨#[]⟩,.slice none 0 0,.slice none 0 0]) rfl rfl (Nat.le_of_ble_eq_true rfl) (by kernel_rfl) (by simp[Value.cells,Value.oneCell']) hbv3 hle ?_
     intro v4 hxv4 hbv4
     simp only[over,Value.cells,List.setIfInBounds_toArray,List.set_cons_succ,List.set_cons_zero]at hxv4
     have hx9:Blk v4 wc.heap.size 30 #[.int .i64 4,.string ⟨#[]⟩,.string dst,.int .i64 n,.bool false,.int .i64 0,.bool false,.int .i64 0,.string ⟨#[]⟩,.slice none 0 0,.slice none 0 0,.bool false,.int .i64 0,.bool false,.int .i64 0,.string ⟨#[]⟩,.slice none 0 0,.slice none 0 0,.slice a l.length c]:=hxv4
     have Hx9:=Lib.hid hx9
     have Hbv4:=Lib.hid hbv4
     clear hx9 hbv4
     clear hxv0 hxv1 hxv2 hxv3 hxv4 hbv0 hbv1 hbv2 hbv3
     go_upto_region 21 with(fail)
     iterate 2 go_step
     refine wp_load_blk 30 (.tmp 3) rfl wc.heap.size _ Hx9.out rfl _ Tryz.underlying30 rfl (by kernel_rfl) ?_
     go_wp2_with (go_at_call 101;(with_reducible refine(blank_calls _ _ _ _ _ _ _ _ _ _ _ _ _ _ _ _ _ _ _ _ _ _ _ _ _ _ _ _ _ _).mono ?_);rintro e w5 ⟨rfl,hb5⟩)
     go_ret
     refine⟨?_,Hbv4.out.trans (hb5.mono Hbv4.out.size)⟩
     rw[HE.out]
     simp only[zero6_none]
     rfl
  have tk4:(k==4)=false:=by simpa using e4
  by_cases e6:k=6
  · subst e6
    have hE:S=(!blankB ⟨#[]⟩ ⟨#[]⟩ n had Z1 has Z2 l.length):=by rw[←HS.out];simp[strangeF,blankB,h00]
    have HE:=Lib.hid hE
    clear hE
    go_upto_region 21 with(fail)
    iterate 2 go_step
    refine wp_load_blk 30 (.tmp 3) rfl _ _ (Blk.new _ _ _) rfl _ Tryz.underlying30 rfl (by kernel_rfl) ?_
    go_wp2_with (go_at_call 101;(with_reducible refine(blank_calls _ _ _ _ _ _ _ _ _ _ _ _ _ _ _ _ _ _ _ _ _ _ _ _ _ _ _ _ _ _).mono ?_);rintro e w5 ⟨rfl,hb5⟩)
    go_ret
    refine⟨?_,Hbw.out.trans (((alloc_below _ _).trans (hb5.mono (by simp))).mono Hbw.out.size)⟩
    rw[HE.out]
    simp only[HZ1.out,HZ2.out]
    rfl
  have tk6:(k==6)=false:=by simpa using e6
  by_cases e7:k=7
  · subst e7
    have hE:S=(!blankB ⟨#[]⟩ dst n false true has Z2 0):=by rw[←HS.out];simp[strangeF,blankB,h00]
    have HE:=Lib.hid hE
    clear hE
    go_upto_region 21 with(fail)
    iterate 2 go_step
    refine wp_load_blk 30 (.tmp 3) rfl _ _ (Blk.new _ _ _) rfl _ Tryz.underlying30 rfl (by kernel_rfl) ?_
    go_wp2_with (go_at_call 101;(with_reducible refine(blank_calls _ _ _ _ _ _ _ _ _ _ _ _ _ _ _ _ _ _ _ _ _ _ _ _ _ _ _ _ _ _).mono ?_);rintro e w5 ⟨rfl,hb5⟩)
    go_ret
    refine⟨?_,Hbw.out.trans (((alloc_below _ _).trans (hb5.mono (by simp))).mono Hbw.out.size)⟩
    rw[HE.out]
    simp only[HZ2.out,zero6_none]
    rfl
  have tk7:(k==7)=false:=by simpa using e7
  have hE:S=true:=by rw[←HS.out];simp[strangeF,h00,e1,e2,e3,e4,e5,e6,e7]
  have HE:=Lib.hid hE
  clear hE
  go_wp2
  go_ret
  exact⟨by rw[HE.out];rfl,Hbw.out.trans ((alloc_below _ _).mono Hbw.out.size)⟩
end Go.Proofs.YtkkbplakgldlpaaGreatDoor

namespace Go.Proofs.YtkkbplakgldlpaaGreatDoor
open Go.RowKit
def LookC (m:Mut):Prop:= ∀(cs:List Value) (d:Int) (w:World),Tabs w→Holds w w.heap.size (dM m) cs→bulkM m≤100000000→inM m→1≤d→d≤7→
 Calls Tryz.prog 32 #[.agg cs.toArray,.int .i64 d] w fun e w'=>e=endE (mayM m d)∧Below w.heap.size w w'
theorem strange_not {k:Int} {dst:ByteArray} {n:Int} {had:Bool} {w1:Val} {has:Bool} {v:Val} {ln:Nat} {B:Bool} (h:bareF k dst n had (zeroB w1) has (zeroB v) ln=B):strangeF k dst n had (zeroB w1) has (zeroB v) ln= !B:=by rw[strange_bare,h]
set_option maxRecDepth 100000 in
set_option maxHeartbeats 16000000 in
theorem look_step (k:Int) (key dst:ByteArray) (n:Int) (had:Bool) (k1:Int) (b1:Bool) (n1:Int) (t1:ByteArray) (l1:List Val) (o1:List (ByteArray×Val)) (has:Bool) (k2:Int) (b2:Bool) (n2:Int) (t2:ByteArray) (l2:List Val) (o2:List (ByteArray×Val)) (l:List Mut) (ih: ∀x ∈ l,LookC x):LookC (Mut.mk k key dst n had (.mk k1 b1 n1 t1 l1 o1) has (.mk k2 b2 n2 t2 l2 o2) l):=by
 intro cs d w hT hM hb hi hd1 hd7
 obtain⟨la1,lc1,oa1,oc1,la2,lc2,oa2,oc2,a,c,rfl,hv1,hv2,hl⟩:=mut_cells hM
 have hls:=bulkMs_len l
 simp only[bulkM]at hb
 simp only[inM]at hi
 obtain⟨_,hi1,hi2,hi3⟩:=hi
 obtain⟨wi,hwi⟩: ∃wi,w.alloc (.cells #[.int .i64 k,.string key,.string dst,.int .i64 n,.bool had,.int .i64 k1,.bool b1,.int .i64 n1,.string t1,.slice la1 l1.length lc1,.slice oa1 o1.length oc1,.bool has,.int .i64 k2,.bool b2,.int .i64 n2,.string t2,.slice la2 l2.length lc2,.slice oa2 o2.length oc2,.slice a l.length c] 30)=wi:=⟨_,rfl⟩
 have hbi:Below w.heap.size w wi:=hwi▸alloc_below _ _
 have hxb:Blk wi w.heap.size 30 #[.int .i64 k,.string key,.string dst,.int .i64 n,.bool had,.int .i64 k1,.bool b1,.int .i64 n1,.string t1,.slice la1 l1.length lc1,.slice oa1 o1.length oc1,.bool has,.int .i64 k2,.bool b2,.int .i64 n2,.string t2,.slice la2 l2.length lc2,.slice oa2 o2.length oc2,.slice a l.length c]:=hwi▸Blk.new _ _ _
 have hST:=fun W=>mstrange_calls k key dst n had k1 b1 n1 t1 l1 o1 has k2 b2 n2 t2 l2 o2 l la1 lc1 oa1 oc1 la2 lc2 oa2 oc2 a c W
 have hKE:=fun(W:World) (hB:Below w.heap.size w W)=>keyed_calls k key dst had (.int .i64 n) (.int .i64 k1) (.bool b1) (.int .i64 n1) (.string t1) (.slice la1 l1.length lc1) (.slice oa1 o1.length oc1) (.bool has) (.int .i64 k2) (.bool b2) (.int .i64 n2) (.string t2) (.slice la2 l2.length lc2) (.slice oa2 o2.length oc2) (.slice a l.length c) W (hT.below hB) (by omega) (by omega)
 have hF1: ∀(W:World) (_:Below w.heap.size w W),Calls Tryz.prog 63 #[.agg #[.int .i64 k1,.bool b1,.int .i64 n1,.string t1,.slice la1 l1.length lc1,.slice oa1 o1.length oc1]] W fun e w'=>e=.returned (.int .i64 (fitsV (.mk k1 b1 n1 t1 l1 o1)))∧Below W.heap.size W w':=fun W hB=>Fits_calls _ _ W (hT.below hB) (HoldsV.more hB.size _ _ (hv1.below hB)) (by omega) hi1
 have hF2: ∀(W:World) (_:Below w.heap.size w W),Calls Tryz.prog 63 #[.agg #[.int .i64 k2,.bool b2,.int .i64 n2,.string t2,.slice la2 l2.length lc2,.slice oa2 o2.length oc2]] W fun e w'=>e=.returned (.int .i64 (fitsV (.mk k2 b2 n2 t2 l2 o2)))∧Below W.heap.size W w':=fun W hB=>Fits_calls _ _ W (hT.below hB) (HoldsV.more hB.size _ _ (hv2.below hB)) (by omega) hi2
 have hMX:mayM (Mut.mk k key dst n had (.mk k1 b1 n1 t1 l1 o1) has (.mk k2 b2 n2 t2 l2 o2) l) d=mayM (Mut.mk k key dst n had (.mk k1 b1 n1 t1 l1 o1) has (.mk k2 b2 n2 t2 l2 o2) l) d:=rfl
 conv at hMX=>rhs;simp only[mayM]
 generalize mayM (Mut.mk k key dst n had (.mk k1 b1 n1 t1 l1 o1) has (.mk k2 b2 n2 t2 l2 o2) l) d=X at hMX ⊢
 generalize fitsV (.mk k1 b1 n1 t1 l1 o1)=X1 at hF1 hMX
 generalize fitsV (.mk k2 b2 n2 t2 l2 o2)=X2 at hF2 hMX
 generalize hKB:keyedB k key dst had=KB at hKE hMX
 have hk4:bareF k dst n had (zeroB (.mk k1 b1 n1 t1 l1 o1)) has (zeroB (.mk k2 b2 n2 t2 l2 o2)) l.length=true→has=true→k=4:=by
  intro h1 h2
  unfold bareF at h1
  simp only[Bool.and_eq_true,Bool.or_eq_true,decide_eq_true_eq,h2]at h1
  have h3:=h1.1.1.1.2
  simpa using h3
 generalize hBB:bareF k dst n had (zeroB (.mk k1 b1 n1 t1 l1 o1)) has (zeroB (.mk k2 b2 n2 t2 l2 o2)) l.length=BB at hMX hk4
 rw[strange_not hBB]at hST
 clear hBB hKB hM
 have HST:=Lib.hid hST
 have HKE:=Lib.hid hKE
 have HF1:=Lib.hid hF1
 have HF2:=Lib.hid hF2
 have Hxb:=Lib.hid hxb
 have Hbi:=Lib.hid hbi
 have HT:=Lib.hid hT
 have Hl:=Lib.hid hl
 have Ih:=Lib.hid ih
 have Hi3:=Lib.hid hi3
 clear hST hKE hF1 hF2 hxb hbi hT hl ih hi3
 cases BB with
 |false=>
  rw[if_pos rfl]at hMX
  have HE:=Lib.hid hMX
  clear hMX
  go_enter Tryz.func32,Tryz.ntmps32
  go_upto_region 1 with(fail)
  clear hwi
  iterate 2 go_step
  refine wp_load_blk 30 (.tmp 2) rfl w.heap.size _ Hxb.out rfl _ Tryz.underlying30 rfl (by kernel_rfl) ?_
  go_wp2_with (fail)
  with_reducible refine(HST.out _).mono ?_
  rintro e w1 ⟨rfl,hb1⟩
  have hbw1:=Hbi.out.trans (hb1.mono Hbi.out.size)
  have hx1:=Hxb.out.below hb1 Hxb.out.lt
  have Hbw1:=Lib.hid hbw1
  have Hx1:=Lib.hid hx1
  clear hbw1 hx1
  clear hb1
  go_wp2_with (fail)
  with_reducible refine(must_no 9 _).mono ?_
  rintro e _ ⟨rfl,rfl⟩
  exact⟨rfl,by rw[HE.out];exact(endE_some (by decide)).symm,Hbw1.out⟩
 |true=>
 rw[if_neg (by simp)]at hMX
 by_cases h6:6<d
 · rw[if_pos h6]at hMX
   have t66:decide (d≤6)=false:=by simpa using h6
   have HE:=Lib.hid hMX
   clear hMX
   go_enter Tryz.func32,Tryz.ntmps32
   go_upto_region 1 with(fail)
   clear hwi
   iterate 2 go_step
   refine wp_load_blk 30 (.tmp 2) rfl w.heap.size _ Hxb.out rfl _ Tryz.underlying30 rfl (by kernel_rfl) ?_
   go_wp2_with (fail)
   with_reducible refine(HST.out _).mono ?_
   rintro e w1 ⟨rfl,hb1⟩
   have hbw1:=Hbi.out.trans (hb1.mono Hbi.out.size)
   have hx1:=Hxb.out.below hb1 Hxb.out.lt
   have Hbw1:=Lib.hid hbw1
   have Hx1:=Lib.hid hx1
   clear hbw1 hx1
   clear hb1
   go_wp2_with (fail)
   with_reducible refine(must_yes 9 _).mono ?_
   rintro e _ ⟨rfl,rfl⟩
   go_wp2_with (fail)
   with_reducible refine(must_no 5 _).mono ?_
   rintro e _ ⟨rfl,rfl⟩
   exact⟨rfl,by rw[HE.out];exact(endE_some (by decide)).symm,Hbw1.out⟩
 rw[if_neg h6]at hMX
 have h66:d≤6:=by omega
 clear h6
 cases KB with
 |false=>
  rw[if_pos rfl]at hMX
  have HE:=Lib.hid hMX
  clear hMX
  go_enter Tryz.func32,Tryz.ntmps32
  go_upto_region 1 with(fail)
  clear hwi
  iterate 2 go_step
  refine wp_load_blk 30 (.tmp 2) rfl w.heap.size _ Hxb.out rfl _ Tryz.underlying30 rfl (by kernel_rfl) ?_
  go_wp2_with (fail)
  with_reducible refine(HST.out _).mono ?_
  rintro e w1 ⟨rfl,hb1⟩
  have hbw1:=Hbi.out.trans (hb1.mono Hbi.out.size)
  have hx1:=Hxb.out.below hb1 Hxb.out.lt
  have Hbw1:=Lib.hid hbw1
  have Hx1:=Lib.hid hx1
  clear hbw1 hx1
  clear hb1
  go_wp2_with (fail)
  with_reducible refine(must_yes 9 _).mono ?_
  rintro e _ ⟨rfl,rfl⟩
  go_wp2_with (fail)
  with_reducible refine(must_yes 5 _).mono ?_
  rintro e _ ⟨rfl,rfl⟩
  go_upto_region 3 with(fail)
  iterate 2 go_step
  refine wp_load_blk 30 (.tmp 2) rfl w.heap.size _ Hx1.out rfl _ Tryz.underlying30 rfl (by kernel_rfl) ?_
  go_wp2_with (fail)
  with_reducible refine(HKE.out _ Hbw1.out).mono ?_
  rintro e w2 ⟨rfl,hb2⟩
  have hbw2:=Hbw1.out.trans (hb2.mono Hbw1.out.size)
  have hx2:=Hx1.out.below hb2 Hx1.out.lt
  have y4:=hx2.cell 4
  have Hbw2:=Lib.hid hbw2
  have Hx2:=Lib.hid hx2
  clear hbw2 hx2
  clear hb2
  go_wp2_with (fail)
  with_reducible refine(must_no 8 _).mono ?_
  rintro e _ ⟨rfl,rfl⟩
  exact⟨rfl,by rw[HE.out];exact(endE_some (by decide)).symm,Hbw2.out⟩
 |true=>
 rw[if_neg (by simp)]at hMX
 have hk4':=hk4 rfl
 clear hk4
 by_cases h4:had=true∧X1≠0
 · rw[if_pos h4]at hMX
   have HE:=Lib.hid hMX
   clear hMX
   obtain⟨rfl,h40⟩:=h4
   go_enter Tryz.func32,Tryz.ntmps32
   go_upto_region 1 with(fail)
   clear hwi
   iterate 2 go_step
   refine wp_load_blk 30 (.tmp 2) rfl w.heap.size _ Hxb.out rfl _ Tryz.underlying30 rfl (by kernel_rfl) ?_
   go_wp2_with (fail)
   with_reducible refine(HST.out _).mono ?_
   rintro e w1 ⟨rfl,hb1⟩
   have hbr1:=hb1
   have hbw1:=Hbi.out.trans (hb1.mono Hbi.out.size)
   have hx1:=Hxb.out.below hb1 Hxb.out.lt
   have Hbw1:=Lib.hid hbw1
   have Hx1:=Lib.hid hx1
   have Hbr1:=Lib.hid hbr1
   clear hbw1 hx1 hbr1
   clear hb1
   go_wp2_with (fail)
   with_reducible refine(must_yes 9 _).mono ?_
   rintro e _ ⟨rfl,rfl⟩
   go_wp2_with (fail)
   with_reducible refine(must_yes 5 _).mono ?_
   rintro e _ ⟨rfl,rfl⟩
   go_upto_region 3 with(fail)
   iterate 2 go_step
   refine wp_load_blk 30 (.tmp 2) rfl w.heap.size _ Hx1.out rfl _ Tryz.underlying30 rfl (by kernel_rfl) ?_
   go_wp2_with (fail)
   with_reducible refine(HKE.out _ Hbw1.out).mono ?_
   rintro e w2 ⟨rfl,hb2⟩
   have hbr2:=Hbr1.out.trans (hb2.mono Hbr1.out.size)
   have hbw2:=Hbw1.out.trans (hb2.mono Hbw1.out.size)
   have hx2:=Hx1.out.below hb2 Hx1.out.lt
   have y4:=hx2.cell 4
   have y5:=hx2.cell 5
   have y6:=hx2.cell 6
   have y7:=hx2.cell 7
   have y8:=hx2.cell 8
   have y9:=hx2.cell 9
   have y10:=hx2.cell 10
   have Hbw2:=Lib.hid hbw2
   have Hx2:=Lib.hid hx2
   have Hbr2:=Lib.hid hbr2
   clear hbw2 hx2 hbr2
   clear hb2
   go_wp2_with (fail)
   with_reducible refine(must_yes 8 _).mono ?_
   rintro e _ ⟨rfl,rfl⟩
   go_wp2_with (fail)
   with_reducible refine(HF1.out _ Hbw2.out).mono ?_
   rintro e w3 ⟨rfl,hb3⟩
   have hbw3:=Hbw2.out.trans (hb3.mono Hbw2.out.size)
   go_wp2_with (fail)
   with_reducible refine(pass_no _ h40 _).mono ?_
   rintro e _ ⟨rfl,rfl⟩
   exact⟨rfl,by rw[HE.out];exact(endE_some h40).symm,hbw3⟩
 rw[if_neg h4]at hMX
 go_enter Tryz.func32,Tryz.ntmps32
 go_upto_region 1 with(fail)
 clear hwi
 iterate 2 go_step
 refine wp_load_blk 30 (.tmp 2) rfl w.heap.size _ Hxb.out rfl _ Tryz.underlying30 rfl (by kernel_rfl) ?_
 go_wp2_with (fail)
 with_reducible refine(HST.out _).mono ?_
 rintro e w1 ⟨rfl,hb1⟩
 have hbr1:=hb1
 have hbw1:=Hbi.out.trans (hb1.mono Hbi.out.size)
 have hx1:=Hxb.out.below hb1 Hxb.out.lt
 have Hbw1:=Lib.hid hbw1
 have Hx1:=Lib.hid hx1
 have Hbr1:=Lib.hid hbr1
 clear hbw1 hx1 hbr1
 clear hb1
 go_wp2_with (fail)
 with_reducible refine(must_yes 9 _).mono ?_
 rintro e _ ⟨rfl,rfl⟩
 go_wp2_with (fail)
 with_reducible refine(must_yes 5 _).mono ?_
 rintro e _ ⟨rfl,rfl⟩
 go_upto_region 3 with(fail)
 iterate 2 go_step
 refine wp_load_blk 30 (.tmp 2) rfl w.heap.size _ Hx1.out rfl _ Tryz.underlying30 rfl (by kernel_rfl) ?_
 go_wp2_with (fail)
 with_reducible refine(HKE.out _ Hbw1.out).mono ?_
 rintro e w2 ⟨rfl,hb2⟩
 have hbr2:=Hbr1.out.trans (hb2.mono Hbr1.out.size)
 have hbw2:=Hbw1.out.trans (hb2.mono Hbw1.out.size)
 have hx2:=Hx1.out.below hb2 Hx1.out.lt
 have y4:=hx2.cell 4
 have y5:=hx2.cell 5
 have y6:=hx2.cell 6
 have y7:=hx2.cell 7
 have y8:=hx2.cell 8
 have y9:=hx2.cell 9
 have y10:=hx2.cell 10
 have Hbw2:=Lib.hid hbw2
 have Hx2:=Lib.hid hx2
 have Hbr2:=Lib.hid hbr2
 clear hbw2 hx2 hbr2
 clear hb2
 go_wp2_with (fail)
 with_reducible refine(must_yes 8 _).mono ?_
 rintro e _ ⟨rfl,rfl⟩
 go_upto_if 17 with(fail)
 go_cut [] (fun wx=>Hid (Below wi.heap.size wi wx))
 case first=>
  cases had with
  |false=>
   go_wp2
   go_meet
   exact Hbr2
  |true=>
   obtain rfl:X1=0:=by simpa using h4
   go_wp2_with (fail)
   with_reducible refine(HF1.out _ Hbw2.out).mono ?_
   rintro e w3 ⟨rfl,hb3⟩
   go_wp2_with (fail)
   with_reducible refine(pass_yes _).mono ?_
   rintro e _ ⟨rfl,rfl⟩
   have HB:=Lib.hid (Hbr2.out.trans (hb3.mono Hbr2.out.size))
   clear hb3
   go_wp2
   go_meet
   exact HB
 case rest=>
  obtain⟨wm,hwm⟩: ∃wm:World,wm=wc:=⟨_,rfl⟩
  subst hwm
  clear Hbr1 Hbr2 Hbw1 Hbw2 Hx1 Hx2 y4 y5 y6 y7 y8 y9 y10 HF1 HST HKE
  have hbr3:=hcut.out
  have hbw3:=Hbi.out.trans (hbr3.mono Hbi.out.size)
  have hx3:=Hxb.out.below hbr3 Hxb.out.lt
  have y0:=hx3.cell 0
  have y11:=hx3.cell 11
  have y12:=hx3.cell 12
  have y13:=hx3.cell 13
  have y14:=hx3.cell 14
  have y15:=hx3.cell 15
  have y16:=hx3.cell 16
  have y17:=hx3.cell 17
  have y18:=hx3.cell 18
  clear hcut
  go_upto_region 6 with(fail)
  go_cut [38] (fun s wx=>s=.bool (has||decide (k=1)||decide (k=5))∧wx=wm)
  case first=>
   by_cases e1:k=1
   · subst e1
     go_wp2
     go_meet
     exact⟨by simp,rfl⟩
   by_cases e5:k=5
   · subst e5
     go_wp2
     go_meet
     exact⟨by simp,rfl⟩
   by_cases e4:k=4
   · subst e4
     go_wp2
     go_meet
     exact⟨by simp,rfl⟩
   · have t1:(k==1)=false:=by simpa using e1
     have t5:(k==5)=false:=by simpa using e5
     have t4:(k==4)=false:=by simpa using e4
     obtain rfl:has=false:=by
      cases has with
      |false=>rfl
      |true=>exact absurd (hk4' rfl) e4
     go_wp2
     go_meet
     exact⟨by simp[e1,e5],rfl⟩
  case rest=>
  obtain⟨rfl,hwc⟩:=hcut
  subst hwc
  have Hbr3:=Lib.hid hbr3
  have Hbw3:=Lib.hid hbw3
  have Hx3:=Lib.hid hx3
  clear hbr3 hbw3 hx3
  generalize (has||decide (k=1)||decide (k=5))=P at hMX
  by_cases h5:P=true∧X2≠0
  · rw[if_pos h5]at hMX
    have HE:=Lib.hid hMX
    clear hMX
    obtain⟨rfl,h50⟩:=h5
    go_wp2_with (fail)
    with_reducible refine(HF2.out _ Hbw3.out).mono ?_
    rintro e w4 ⟨rfl,hb4⟩
    go_wp2_with (fail)
    with_reducible refine(pass_no _ h50 _).mono ?_
    rintro e _ ⟨rfl,rfl⟩
    exact⟨rfl,by rw[HE.out];exact(endE_some h50).symm,Hbw3.out.trans (hb4.mono Hbw3.out.size)⟩
  rw[if_neg h5]at hMX
  go_upto_if 38 with(fail)
  go_cut [] (fun wx=>Hid (Below wi.heap.size wi wx))
  case first=>
   cases P with
   |true=>
    obtain rfl:X2=0:=by
     by_cases h:X2=0
     · exact h
     · exact absurd ⟨rfl,h⟩ h5
    go_wp2_with (fail)
    with_reducible refine(HF2.out _ Hbw3.out).mono ?_
    rintro e w4 ⟨rfl,hb4⟩
    go_wp2_with (fail)
    with_reducible refine(pass_yes _).mono ?_
    rintro e _ ⟨rfl,rfl⟩
    have HB:=Lib.hid (Hbr3.out.trans (hb4.mono Hbr3.out.size))
    clear hb4
    go_wp2
    go_meet
    exact HB
   |false=>
    go_wp2
    go_meet
    exact Hbr3
  case rest=>
   have hbr5:=hcut.out
   have hbw5:=Hbi.out.trans (hbr5.mono Hbi.out.size)
   have hx5:=Hxb.out.below hbr5 Hxb.out.lt
   clear y0 y11 y12 y13 y14 y15 y16 y17 y18 Hbr3 Hbw3 Hx3 h5 HF2 h4
   have y18:=hx5.cell 18
   have hX0:mayMs (l.drop 0) (d+1)=X:=by rw[List.drop_zero];exact hMX.symm
   clear hMX
   have Hbr5:=Lib.hid hbr5
   have Hbw5:=Lib.hid hbw5
   have Hx5:=Lib.hid hx5
   have HX0:=Lib.hid hX0
   clear hbr5 hbw5 hx5 hX0
   clear hcut
   go_wp2_with (fail)
   go_loopw [46] (fun i wr=> ∃q:Nat,i=.int .i64 q∧q≤l.length∧Hid (mayMs (l.drop q) (d+1)=X)∧Hid (Below wi.heap.size wi wr)) (fun i _=>l.length - (intOf i).toNat)
   case atStart=>exact⟨0,rfl,Nat.zero_le _,HX0,Hbr5⟩
   case round=>
    obtain⟨q,rfl,hq,hX,hbr⟩:=hrel
    clear HX0 Hbr5 Hbw5 Hx5 y18
    have hbw:=Hbi.out.trans (hbr.out.mono Hbi.out.size)
    by_cases hlt:q<l.length
    · obtain⟨m,hm⟩: ∃p,l[q]? =some p:=⟨_,List.getElem?_eq_getElem hlt⟩
      have hmem:=List.mem_of_getElem? hm
      have hbm:=bulkMs_mem hmem
      have hC:=Ih.out m hmem
      have hin:=inMs_mem hmem Hi3.out
      have hXd:=hX.out
      rw[mayMs_drop hm]at hXd
      obtain⟨k',key',dst',n',had',⟨k1',b1',n1',t1',l1',o1'⟩,has',⟨k2',b2',n2',t2',l2',o2'⟩,l'⟩:=m
      have hz:=hbw.size
      obtain⟨g,off,rfl,hg,cs',hcs,_,hcell⟩:=mut_at (Hl.out.below hbw) hm
      obtain⟨la1',lc1',oa1',oc1',la2',lc2',oa2',oc2',a',c',rfl,_,_,_⟩:=mut_cells hcs
      have hrange:wr.rangeAt g (off+q*19) [.int .i64 k',.string key',.string dst',.int .i64 n',.bool had',.int .i64 k1',.bool b1',.int .i64 n1',.string t1',.slice la1' l1'.length lc1',.slice oa1' o1'.length oc1',.bool has',.int .i64 k2',.bool b2',.int .i64 n2',.string t2',.slice la2' l2'.length lc2',.slice oa2' o2'.length oc2',.slice a' l'.length c']:=hcell
      have hgr:g<wr.heap.size:=by omega
      have hq1:(q:Int)<(l.length:Int):=by omega
      have hq0:(0:Int)≤q:=by omega
      have hC': ∀W,Below wr.heap.size wr W→Calls Tryz.prog 32 #[.agg #[.int .i64 k',.string key',.string dst',.int .i64 n',.bool had',.int .i64 k1',.bool b1',.int .i64 n1',.string t1',.slice la1' l1'.length lc1',.slice oa1' o1'.length oc1',.bool has',.int .i64 k2',.bool b2',.int .i64 n2',.string t2',.slice la2' l2'.length lc2',.slice oa2' o2'.length oc2',.slice a' l'.length c'],.int .i64 (d+1)] W fun e w'=>e=endE (mayM (Mut.mk k' key' dst' n' had' (.mk k1' b1' n1' t1' l1' o1') has' (.mk k2' b2' n2' t2' l2' o2') l') (d+1))∧Below W.heap.size W w':=fun W hW=>hC _ _ W (HT.out.below (hbw.trans (hW.mono hz))) ((hcs.below (hW.mono hz)).more (Nat.le_trans hz hW.size)) (by omega) hin (by omega) (by omega)
      generalize mayM (Mut.mk k' key' dst' n' had' (.mk k1' b1' n1' t1' l1' o1') has' (.mk k2' b2' n2' t2' l2' o2') l') (d+1)=Y at hC' hXd
      have HC':=Lib.hid hC'
      have Hbw:=Lib.hid hbw
      clear hC' hbw
      clear hC hcs hcell hmem hbm hm hX hin
      go_upto_region 10 with(fail)
      iterate 5 go_step
      refine wp_load_mid 30 (.tmp 48) rfl g (off+q*19) rfl [.int .i64 k',.string key',.string dst',.int .i64 n',.bool had',.int .i64 k1',.bool b1',.int .i64 n1',.string t1',.slice la1' l1'.length lc1',.slice oa1' o1'.length oc1',.bool has',.int .i64 k2',.bool b2',.int .i64 n2',.string t2',.slice la2' l2'.length lc2',.slice oa2' o2'.length oc2',.slice a' l'.length c'] _ hrange Tryz.underlying30 rfl (by kernel_rfl) ?_
      iterate 5 go_step
      refine wp_store_new 30 (.tmp 5) (.tmp 49) rfl #[.int .i64 k',.string key',.string dst',.int .i64 n',.bool had',.int .i64 k1',.bool b1',.int .i64 n1',.string t1',.slice la1' l1'.length lc1',.slice oa1' o1'.length oc1',.bool has',.int .i64 k2',.bool b2',.int .i64 n2',.string t2',.slice la2' l2'.length lc2',.slice oa2' o2'.length oc2',.slice a' l'.length c'] rfl rfl rfl (by kernel_rfl) (by simp[Value.oneCell']) ?_
      go_upto_region 11 with(fail)
      iterate 2 go_step
      refine wp_load_blk 30 (.tmp 5) rfl wr.heap.size _ (Blk.new _ _ _) rfl _ Tryz.underlying30 rfl (by kernel_rfl) ?_
      go_wp2_with (fail)
      with_reducible refine(HC'.out _ (alloc_below _ _)).mono ?_
      rintro e w6 ⟨rfl,hb6⟩
      have hz2:=hbr.out.size
      have hbf:=hbr.out.trans (((alloc_below wr (.cells #[.int .i64 k',.string key',.string dst',.int .i64 n',.bool had',.int .i64 k1',.bool b1',.int .i64 n1',.string t1',.slice la1' l1'.length lc1',.slice oa1' o1'.length oc1',.bool has',.int .i64 k2',.bool b2',.int .i64 n2',.string t2',.slice la2' l2'.length lc2',.slice oa2' o2'.length oc2',.slice a' l'.length c'] 30)).trans (hb6.mono (by simp))).mono hz2)
      by_cases hY:Y=0
      · subst hY
        rw[if_pos rfl]at hXd
        rw[endE_zero]
        have HXd:=Lib.hid hXd
        have Hbf:=Lib.hid hbf
        clear hXd hbf
        clear hb6
        go_wp2
        go_roundw
        case rel=>exact⟨q+1,by go_num,by omega,HXd,Hbf⟩
        case measure=>simp only[intOf];omega
      · rw[if_neg hY]at hXd
        rw[endE_some hY]
        exact⟨rfl,by rw[←hXd,endE_some hY],Hbi.out.trans (hbf.mono Hbi.out.size)⟩
    · obtain rfl:q=l.length:=by omega
      have hE:=hX.out
      rw[List.drop_length]at hE
      have hE':X=0:=hE.symm
      subst hE'
      have Hbw:=Lib.hid hbw
      clear hbw
      clear hX hE
      go_wp2
      go_end0
      exact⟨rfl,Hbw.out⟩
theorem look_calls: ∀m,LookC m:=by
 refine Mut.ind ?_
 intro k key dst n had was has v l IH
 obtain⟨k1,b1,n1,t1,l1,o1⟩:=was
 obtain⟨k2,b2,n2,t2,l2,o2⟩:=v
 exact look_step k key dst n had k1 b1 n1 t1 l1 o1 has k2 b2 n2 t2 l2 o2 l IH
end Go.Proofs.YtkkbplakgldlpaaGreatDoor
