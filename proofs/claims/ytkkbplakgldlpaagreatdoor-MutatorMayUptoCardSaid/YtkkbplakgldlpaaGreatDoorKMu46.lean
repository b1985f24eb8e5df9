/- Parts, joined: mutator.Object: a mutator's object, or why it has none. Condition: a bulk of at most 8 * 10^6, numbers of 64 bits. mutator.Object's error road; mutator.Text: a mutator's text, or why it has none. Condition: a bulk of at most 8 * 10^6, numbers of 64 bits. commonplacelaw11.known: the chapter's rows are so. No condition. -/
import Derived.Test.YtkkbplakgldlpaaGreatDoorProg
import Derived.Deep.RegionHeld3
import Derived.Test.YtkkbplakgldlpaaGreatDoorKMu12
import Derived.Test.YtkkbplakgldlpaaGreatDoorKMu37
import Derived.Test.YtkkbplakgldlpaaGreatDoorKMu44
import Derived.Test.YtkkbplakgldlpaaGreatDoorKMu45
namespace Go.Proofs.YtkkbplakgldlpaaGreatDoor
open Go Go.RowKit
def MObjPost (m:Mut) (w:World) (e:Ending) (w':World):Prop:=Below w.heap.size w w'∧
 ∃oa oc,e=.returned (.tuple #[.agg #[.int .i64 6,.bool false,.int .i64 0,.string ⟨#[]⟩,.slice none 0 0,.slice oa 2 oc],.int .i64 0])∧Fresh w.heap.size w' (dV (mutV m)) [.int .i64 6,.bool false,.int .i64 0,.string ⟨#[]⟩,.slice none 0 0,.slice oa 2 oc]
theorem mutMay_zero {m:Mut} (h:mutMay m=0):mayM m 1=0:=by
 unfold mutMay at h
 split at h
 · cases h
 · exact h
set_option maxRecDepth 100000 in
set_option maxHeartbeats 4000000 in
theorem mutObject_calls (k:Int) (key dst:ByteArray) (n:Int) (had:Bool) (k1:Int) (b1:Bool) (n1:Int) (t1:ByteArray) (l1:List Val) (o1:List (ByteArray×Val)) (has:Bool) (k2:Int) (b2:Bool) (n2:Int) (t2:ByteArray) (l2:List Val) (o2:List (ByteArray×Val)) (l:List Mut) (cs:List Value) (w:World) (hT:Tabs w) (hN:MNames w) (hM:Holds w w.heap.size (dM (Mut.mk k key dst n had (.mk k1 b1 n1 t1 l1 o1) has (.mk k2 b2 n2 t2 l2 o2) l)) cs) (hb:bulkM (Mut.mk k key dst n had (.mk k1 b1 n1 t1 l1 o1) has (.mk k2 b2 n2 t2 l2 o2) l)≤8000000) (hi:inM (Mut.mk k key dst n had (.mk k1 b1 n1 t1 l1 o1) has (.mk k2 b2 n2 t2 l2 o2) l)) (hm:mutMay (Mut.mk k key dst n had (.mk k1 b1 n1 t1 l1 o1) has (.mk k2 b2 n2 t2 l2 o2) l)=0):
 Calls Tryz.prog 12 #[.agg cs.toArray] w (MObjPost (Mut.mk k key dst n had (.mk k1 b1 n1 t1 l1 o1) has (.mk k2 b2 n2 t2 l2 o2) l) w):=by
 have hMay:=fun W (hW:Below w.heap.size w W)=>mutMay_calls _ cs W (hT.below hW) ((hM.below hW).more hW.size) (by omega) hi
 have hWr:=fun W (hW:Below w.heap.size w W) g A R X F hS=>write_calls (Mut.mk k key dst n had (.mk k1 b1 n1 t1 l1 o1) has (.mk k2 b2 n2 t2 l2 o2) l) cs 1 g A R X F W hS (hN.below hW) ((hM.below hW).more hW.size) hb (mutMay_zero hm)
 rw[hm]at hMay
 obtain⟨la1,lc1,oa1,oc1,la2,lc2,oa2,oc2,a,c,rfl,_,_,_⟩:=mut_cells hM
 have h0:Below w.heap.size w ((w.alloc (.cells #[.int .i64 k,.string key,.string dst,.int .i64 n,.bool had,.int .i64 k1,.bool b1,.int .i64 n1,.string t1,.slice la1 l1.length lc1,.slice oa1 o1.length oc1,.bool has,.int .i64 k2,.bool b2,.int .i64 n2,.string t2,.slice la2 l2.length lc2,.slice oa2 o2.length oc2,.slice a l.length c] 30)).alloc (.cells zero6 27)):=((Below.refl _ _).alloc (Nat.le_refl _) _).alloc (by simp) _
 have hx0:Blk ((w.alloc (.cells #[.int .i64 k,.string key,.string dst,.int .i64 n,.bool had,.int .i64 k1,.bool b1,.int .i64 n1,.string t1,.slice la1 l1.length lc1,.slice oa1 o1.length oc1,.bool has,.int .i64 k2,.bool b2,.int .i64 n2,.string t2,.slice la2 l2.length lc2,.slice oa2 o2.length oc2,.slice a l.length c] 30)).alloc (.cells zero6 27)) w.heap.size 30 #[.int .i64 k,.string key,.string dst,.int .i64 n,.bool had,.int .i64 k1,.bool b1,.int .i64 n1,.string t1,.slice la1 l1.length lc1,.slice oa1 o1.length oc1,.bool has,.int .i64 k2,.bool b2,.int .i64 n2,.string t2,.slice la2 l2.length lc2,.slice oa2 o2.length oc2,.slice a l.length c]:=(Blk.new _ _ _).alloc _
 have hr0:Blk ((w.alloc (.cells #[.int .i64 k,.string key,.string dst,.int .i64 n,.bool had,.int .i64 k1,.bool b1,.int .i64 n1,.string t1,.slice la1 l1.length lc1,.slice oa1 o1.length oc1,.bool has,.int .i64 k2,.bool b2,.int .i64 n2,.string t2,.slice la2 l2.length lc2,.slice oa2 o2.length oc2,.slice a l.length c] 30)).alloc (.cells zero6 27)) (w.heap.size+1) 27 zero6:=by
  have:=Blk.new (w.alloc (.cells #[.int .i64 k,.string key,.string dst,.int .i64 n,.bool had,.int .i64 k1,.bool b1,.int .i64 n1,.string t1,.slice la1 l1.length lc1,.slice oa1 o1.length oc1,.bool has,.int .i64 k2,.bool b2,.int .i64 n2,.string t2,.slice la2 l2.length lc2,.slice oa2 o2.length oc2,.slice a l.length c] 30)) 27 zero6
  rwa [World.size_alloc]at this
 have hz2:w.heap.size+2≤((w.alloc (.cells #[.int .i64 k,.string key,.string dst,.int .i64 n,.bool had,.int .i64 k1,.bool b1,.int .i64 n1,.string t1,.slice la1 l1.length lc1,.slice oa1 o1.length oc1,.bool has,.int .i64 k2,.bool b2,.int .i64 n2,.string t2,.slice la2 l2.length lc2,.slice oa2 o2.length oc2,.slice a l.length c] 30)).alloc (.cells zero6 27)).heap.size:=by simp
 have H0:=Lib.hid h0
 have Hx0:=Lib.hid hx0
 have Hr0:=Lib.hid hr0
 have Hz2:=Lib.hid hz2
 have HMay:=Lib.hid hMay
 have HWr:=Lib.hid hWr
 clear h0 hx0 hr0 hz2 hMay hWr
 clear hM hT hN hb hi hm
 go_enter Tryz.func12,Tryz.ntmps12
 go_upto_region 1 with(fail)
 iterate 2 go_step
 refine wp_load_blk 30 (.tmp 1) rfl w.heap.size _ Hx0.out rfl _ Tryz.underlying30 rfl (by kernel_rfl) ?_
 go_wp2_with (fail)
 with_reducible refine(HMay.out _ H0.out).mono ?_
 rintro e w1 ⟨rfl,hb1⟩
 have hw1:=H0.out.trans (hb1.mono H0.out.size)
 have hx1:=Hx0.out.below hb1 Hx0.out.lt
 have hr1:=Hr0.out.below hb1 Hr0.out.lt
 have hz1:w.heap.size+2≤w1.heap.size:=Nat.le_trans Hz2.out hb1.size
 have Hb1:=Lib.hid hb1
 have Hw1:=Lib.hid hw1
 have Hx1:=Lib.hid hx1
 have Hr1:=Lib.hid hr1
 clear hb1 hw1 hx1 hr1
 go_upto_region 4 with(fail)
 refine wp_region_held_drew (S:=fun X=>X.rangeAt w.heap.size 0 [.int .i64 k,.string key,.string dst,.int .i64 n,.bool had,.int .i64 k1,.bool b1,.int .i64 n1,.string t1,.slice la1 l1.length lc1,.slice oa1 o1.length oc1,.bool has,.int .i64 k2,.bool b2,.int .i64 n2,.string t2,.slice la2 l2.length lc2,.slice oa2 o2.length oc2,.slice a l.length c]) (by kernel_rfl) (blk_range Hx1.out) (fun hHeld=> ?_)
 refine wpAnyH_take (i:=1) rfl (by kernel_rfl) (by kernel_rfl) (by kernel_rfl) (fun _ _ _ h=>h) (yieldsIf_load_mid (by kernel_rfl) 30 (.tmp 1) rfl w.heap.size 0 rfl [.int .i64 k,.string key,.string dst,.int .i64 n,.bool had,.int .i64 k1,.bool b1,.int .i64 n1,.string t1,.slice la1 l1.length lc1,.slice oa1 o1.length oc1,.bool has,.int .i64 k2,.bool b2,.int .i64 n2,.string t2,.slice la2 l2.length lc2,.slice oa2 o2.length oc2,.slice a l.length c] _ (fun X hX=>hX) Tryz.underlying30 rfl (by kernel_rfl)) hHeld ?_
 try simp only[Act.put,List.setIfInBounds_toArray]
 refine wpAnyH_ready (rs:= [0]) (by kernel_rfl) (by simp) ?_
 refine AllReadyH.cons rfl (fun K hK=> ?_) AllReadyH.nil
 go_simp
 (with_reducible refine(shapes_calls _).mono ?_)
 rintro e w2 ⟨hb2,g,A,R,X,F,rfl,hS⟩
 have hb2':Below w1.heap.size w1 w2:=(Below.drew (Below.refl _ _)).trans hb2
 have hw2:=Hw1.out.trans (hb2'.mono Hw1.out.size)
 have hx2:=Hx1.out.below hb2' Hx1.out.lt
 have hr2:=Hr1.out.below hb2' Hr1.out.lt
 refine hK.out _ _ (blk_range hx2) (fun hHeld=> ?_)
 clear hK K
 try simp only[Act.put,List.setIfInBounds_toArray,List.set_cons_zero,List.set_cons_succ]
 refine wpAnyH_ready (rs:= [2]) (by kernel_rfl) (by simp) ?_
 refine AllReadyH.cons rfl (fun K hK=> ?_) AllReadyH.nil
 have hz22:w.heap.size+2≤w2.heap.size:=Nat.le_trans hz1 hb2'.size
 have HS:=Lib.hid hS
 have Hw2:=Lib.hid hw2
 have Hx2:=Lib.hid hx2
 have Hr2:=Lib.hid hr2
 have Hb2:=Lib.hid hb2
 have Hb2':=Lib.hid hb2'
 clear hS hw2 hx2 hr2 hb2 hb2'
 go_simp
 (with_reducible refine(HWr.out _ Hw2.out g A R X F HS.out).mono ?_)
 rintro e w6 ⟨hb6,oa5,oc5,rfl,hf6⟩
 have hw6:=Hw2.out.trans (hb6.mono Hw2.out.size)
 have hx6:=Hx2.out.below hb6 Hx2.out.lt
 have hr6:=Hr2.out.below hb6 Hr2.out.lt
 refine hK.out _ _ (blk_range hx6) (fun hHeld=> ?_)
 clear hK K
 try simp only[Act.put,List.setIfInBounds_toArray,List.set_cons_zero,List.set_cons_succ]
 refine wpAnyH_ready (rs:= [3]) (by kernel_rfl) (by simp) ?_
 refine AllReadyH.cons rfl (fun K hK=> ?_) AllReadyH.nil
 obtain⟨c0,c1,c2,c3,c4,c5⟩:=vcell hr6
 have fz:=hr6.frozen
 have hlt6:=hr6.lt
 have Hw6:=Lib.hid hw6
 have Hx6:=Lib.hid hx6
 have Hr6:=Lib.hid hr6
 have Hf6:=Lib.hid hf6
 have Hb6:=Lib.hid hb6
 clear hw6 hx6 hr6 hf6 hb6
 go_simp
 have hxs:Blk (setMany w6 (w.heap.size+1) 0 [.int .i64 6,.bool false,.int .i64 0,.string ⟨#[]⟩,.slice none 0 0,.slice oa5 2 oc5]) w.heap.size 30 #[.int .i64 k,.string key,.string dst,.int .i64 n,.bool had,.int .i64 k1,.bool b1,.int .i64 n1,.string t1,.slice la1 l1.length lc1,.slice oa1 o1.length oc1,.bool has,.int .i64 k2,.bool b2,.int .i64 n2,.string t2,.slice la2 l2.length lc2,.slice oa2 o2.length oc2,.slice a l.length c]:=(setMany_far _ _ _ _ _ (by omega)).trans Hx6.out
 refine hK.out _ _ (blk_range hxs) (fun hHeld=> ?_)
 clear hK K
 try simp only[Act.put,List.setIfInBounds_toArray,List.set_cons_zero,List.set_cons_succ]
 refine wpAnyH_take (i:=4) (v:= ?_) rfl (by kernel_rfl) (by kernel_rfl) (by kernel_rfl) (fun _ _ _ h=>h) (Or.inl ⟨by kernel_rfl, ?_⟩) hHeld ?_
 rotate_left
 · intro X hSw
   first|(go_simp;done)|(go_simp;with_reducible rfl)
 try simp only[Act.put,List.setIfInBounds_toArray]
 refine wpAnyH_done (by kernel_rfl) ?_ _
 clear hHeld hxs c0 c1 c2 c3 c4 c5 fz
 repeat go_step
 have hxf:=((((((Hr6.out.set_ 0 (.int .i64 6)).set_ 1 (.bool false)).set_ 2 (.int .i64 0)).set_ 3 (.string ⟨#[]⟩)).set_ 4 (.slice none 0 0)).set_ 5 (.slice oa5 2 oc5))
 have hbf:=setMany_below [.int .i64 6,.bool false,.int .i64 0,.string ⟨#[]⟩,.slice none 0 0,.slice oa5 2 oc5] Hw6.out (Nat.le_succ w.heap.size) (o:=0)
 have hff:Fresh w.heap.size (setMany w6 (w.heap.size+1) 0 [.int .i64 6,.bool false,.int .i64 0,.string ⟨#[]⟩,.slice none 0 0,.slice oa5 2 oc5]) (dV (mutV (Mut.mk k key dst n had (.mk k1 b1 n1 t1 l1 o1) has (.mk k2 b2 n2 t2 l2 o2) l))) [.int .i64 6,.bool false,.int .i64 0,.string ⟨#[]⟩,.slice none 0 0,.slice oa5 2 oc5]:=
  Hf6.out.keep (b':=w.heap.size) (by omega) (by rw[setMany_size];exact Nat.le_refl _) (fun p p1 _=>World.cell?_of_block (setMany_far _ _ _ _ _ (by omega)))
 exact bodyPost_ret (results_cell6_t rfl rfl hxf) rfl ⟨hbf,oa5,oc5,rfl,hff⟩
end Go.Proofs.YtkkbplakgldlpaaGreatDoor

namespace Go.Proofs.YtkkbplakgldlpaaGreatDoor
open Go Go.RowKit
set_option maxRecDepth 100000 in
set_option maxHeartbeats 4000000 in
theorem mutObject_no (m:Mut) (cs:List Value) (w:World) (hT:Tabs w) (hM:Holds w w.heap.size (dM m) cs) (hb:bulkM m≤100000000) (hi:inM m) (hm:mutMay m≠0):
 Calls Tryz.prog 12 #[.agg cs.toArray] w fun e w'=>e=.returned (.tuple #[.agg zero6,.int .i64 (mutMay m)])∧Below w.heap.size w w':=by
 have hMay:=fun W (hW:Below w.heap.size w W)=>mutMay_calls m cs W (hT.below hW) ((hM.below hW).more hW.size) hb hi
 generalize mutMay m=c at hm hMay ⊢
 generalize hPO:(fun(e:Ending) (w':World)=>e=.returned (.tuple #[.agg zero6,.int .i64 c])∧Below w.heap.size w w')=PO
 have t0:(c != 0)=true:=by simpa using hm
 obtain⟨k,key,dst,n,had,⟨k1,b1,n1,t1,l1,o1⟩,has,⟨k2,b2,n2,t2,l2,o2⟩,l⟩:=m
 obtain⟨la1,lc1,oa1,oc1,la2,lc2,oa2,oc2,a,c,rfl,_,_,_⟩:=mut_cells hM
 have h0:Below w.heap.size w ((w.alloc (.cells #[.int .i64 k,.string key,.string dst,.int .i64 n,.bool had,.int .i64 k1,.bool b1,.int .i64 n1,.string t1,.slice la1 l1.length lc1,.slice oa1 o1.length oc1,.bool has,.int .i64 k2,.bool b2,.int .i64 n2,.string t2,.slice la2 l2.length lc2,.slice oa2 o2.length oc2,.slice a l.length c] 30)).alloc (.cells zero6 27)):=((Below.refl _ _).alloc (Nat.le_refl _) _).alloc (by simp) _
 have hx0:Blk ((w.alloc (.cells #[.int .i64 k,.string key,.string dst,.int .i64 n,.bool had,.int .i64 k1,.bool b1,.int .i64 n1,.string t1,.slice la1 l1.length lc1,.slice oa1 o1.length oc1,.bool has,.int .i64 k2,.bool b2,.int .i64 n2,.string t2,.slice la2 l2.length lc2,.slice oa2 o2.length oc2,.slice a l.length c] 30)).alloc (.cells zero6 27)) w.heap.size 30 #[.int .i64 k,.string key,.string dst,.int .i64 n,.bool had,.int .i64 k1,.bool b1,.int .i64 n1,.string t1,.slice la1 l1.length lc1,.slice oa1 o1.length oc1,.bool has,.int .i64 k2,.bool b2,.int .i64 n2,.string t2,.slice la2 l2.length lc2,.slice oa2 o2.length oc2,.slice a l.length c]:=(Blk.new _ _ _).alloc _
 have hr0:Blk ((w.alloc (.cells #[.int .i64 k,.string key,.string dst,.int .i64 n,.bool had,.int .i64 k1,.bool b1,.int .i64 n1,.string t1,.slice la1 l1.length lc1,.slice oa1 o1.length oc1,.bool has,.int .i64 k2,.bool b2,.int .i64 n2,.string t2,.slice la2 l2.length lc2,.slice oa2 o2.length oc2,.slice a l.length c] 30)).alloc (.cells zero6 27)) (w.heap.size+1) 27 zero6:=by
  have:=Blk.new (w.alloc (.cells #[.int .i64 k,.string key,.string dst,.int .i64 n,.bool had,.int .i64 k1,.bool b1,.int .i64 n1,.string t1,.slice la1 l1.length lc1,.slice oa1 o1.length oc1,.bool has,.int .i64 k2,.bool b2,.int .i64 n2,.string t2,.slice la2 l2.length lc2,.slice oa2 o2.length oc2,.slice a l.length c] 30)) 27 zero6
  rwa [World.size_alloc]at this
 have H0:=Lib.hid h0
 have Hx0:=Lib.hid hx0
 have Hr0:=Lib.hid hr0
 have HMay:=Lib.hid hMay
 have HPO:=Lib.hid hPO
 clear h0 hx0 hr0 hMay hPO
 clear hM hT hb hi hm
 go_enter Tryz.func12,Tryz.ntmps12
 go_upto_region 1 with(fail)
 iterate 2 go_step
 refine wp_load_blk 30 (.tmp 1) rfl w.heap.size _ Hx0.out rfl _ Tryz.underlying30 rfl (by kernel_rfl) ?_
 go_wp2_with (fail)
 with_reducible refine(HMay.out _ H0.out).mono ?_
 rintro e w1 ⟨rfl,hb1⟩
 have hw1:=H0.out.trans (hb1.mono H0.out.size)
 have hr1:=Hr0.out.below hb1 Hr0.out.lt
 obtain⟨r0,r1,r2,r3,r4,r5⟩:=vcell hr1
 have fz:=hr1.frozen
 have lt1:=hr1.lt
 have Hw1:=Lib.hid hw1
 have Hr1:=Lib.hid hr1
 clear hw1 hr1
 clear hb1
 go_upto_region 3 with(fail)
 repeat go_step
 have hxf:=(((((Hr1.out.set_ 0 (.int .i64 0)).set_ 1 (.bool false)).set_ 2 (.int .i64 0)).set_ 3 (.string ⟨#[]⟩)).set_ 4 (.slice none 0 0)).set_ 5 (.slice none 0 0)
 have hbf:=setMany_below [.int .i64 0,.bool false,.int .i64 0,.string ⟨#[]⟩,.slice none 0 0,.slice none 0 0] Hw1.out (Nat.le_succ w.heap.size) (o:=0)
 rw[←HPO.out]
 exact bodyPost_ret (results_cell6_t rfl rfl hxf) rfl ⟨rfl,hbf⟩
def MTextPost (m:Mut) (w:World) (e:Ending) (w':World):Prop:=Below w.heap.size w w'∧e=.returned (.tuple #[.string (if mutMay m=0 then textS (mutV m)else⟨#[]⟩),.int .i64 (mutMay m)])
set_option maxRecDepth 100000 in
set_option maxHeartbeats 4000000 in
theorem mutText_calls (m:Mut) (cs:List Value) (w:World) (hT:Tabs w) (hN:MNames w) (hM:Holds w w.heap.size (dM m) cs) (hb:bulkM m≤8000000) (hi:inM m):
 Calls Tryz.prog 13 #[.agg cs.toArray] w (MTextPost m w):=by
 have hNo:=fun W (hW:Below w.heap.size w W)=>mutObject_no m cs W (hT.below hW) ((hM.below hW).more hW.size) (by omega) hi
 have hOk: ∀W,Below w.heap.size w W→mutMay m=0→Calls Tryz.prog 12 #[.agg cs.toArray] W (MObjPost m W):=fun W hW h0=>by
  obtain⟨k,key,dst,n,had,⟨k1,b1,n1,t1,l1,o1⟩,has,⟨k2,b2,n2,t2,l2,o2⟩,l⟩:=m
  exact mutObject_calls _ _ _ _ _ _ _ _ _ _ _ _ _ _ _ _ _ _ _ cs W (hT.below hW) (hN.below hW) ((hM.below hW).more hW.size) hb hi h0
 have hTx: ∀W oa oc,Below w.heap.size w W→mutMay m=0→Holds W W.heap.size (dV (mutV m)) [.int .i64 6,.bool false,.int .i64 0,.string ⟨#[]⟩,.slice none 0 0,.slice oa 2 oc]→Calls Tryz.prog 37 #[.agg #[.int .i64 6,.bool false,.int .i64 0,.string ⟨#[]⟩,.slice none 0 0,.slice oa 2 oc]] W fun e w'=>e=.returned (.tuple #[.string (textS (mutV m)),.int .i64 0])∧Below W.heap.size W w':=fun W oa oc hW h0 hh=>by
  have hbm:=bulk_mutV m
  have:=Text_calls (mutV m) _ W (hT.below hW) (holdsV_of _ _ hh) (by omega) (in_mutV m hi)
  rw[may_mutV m 1 1 (mutMay_zero h0) (by omega) (by omega)]at this
  exact this
 obtain⟨TX,hTX⟩: ∃t,textS (mutV m)=t:=⟨_,rfl⟩
 rw[hTX]at hTx
 have hl:cs.length=19:=by have:=hM.len.1;rwa [dM_cells]at this
 obtain⟨ca,hca⟩: ∃ca,cs.toArray=ca:=⟨_,rfl⟩
 have hs:ca.size=19:=by rw[←hca];simpa using hl
 have hone: ∀u ∈ ca.toList,u.oneCell'=true:=by rw[←hca];exact hM.len.2
 rw[hca]at hNo hOk ⊢
 obtain⟨wi,hwi⟩: ∃wi,w.alloc (.cells ca 30)=wi:=⟨_,rfl⟩
 have hbi:Below w.heap.size w wi:=hwi▸alloc_below _ _
 have hxi:Blk wi w.heap.size 30 ca:=hwi▸Blk.new _ _ _
 obtain⟨c,hc⟩: ∃c,mutMay m=c:=⟨_,rfl⟩
 rw[hc]at hNo hOk hTx
 obtain⟨PO,hPO⟩: ∃P,MTextPost m w=P:=⟨_,rfl⟩
 rw[hPO]
 have hfin: ∀W,Below w.heap.size w W→MTextPost m w (.returned (.tuple #[.string (if c=0 then TX else⟨#[]⟩),.int .i64 c])) W:=fun W hW=>⟨hW,by rw[hTX,hc]⟩
 have HNo:=Lib.hid hNo
 have HOk:=Lib.hid hOk
 have HTx:=Lib.hid hTx
 have Hbi:=Lib.hid hbi
 have Hxi:=Lib.hid hxi
 have HPO:=Lib.hid hPO
 have Hfin:=Lib.hid hfin
 clear hNo hOk hTx hbi hxi hPO hfin
 clear hM hN hT hi hb hc hca hTX
 go_enter Tryz.func13,Tryz.ntmps13
 go_upto_region 1 with(fail)
 clear hwi
 iterate 2 go_step
 refine wp_load_blk 30 (.tmp 1) rfl w.heap.size _ Hxi.out rfl _ Tryz.underlying30 rfl (by rw[hs];kernel_rfl) ?_
 by_cases h0:c=0
 rotate_left
 · have t0:(c != 0)=true:=by simpa using h0
   have hO:=HNo.out wi Hbi.out h0
   have hf:=Hfin.out
   simp only[if_neg h0]at hf
   have HO:=Lib.hid hO
   have Hf:=Lib.hid hf
   clear hO hf
   clear HNo HOk HTx h0 Hfin
   go_wp2_with (fail)
   with_reducible refine(HO.out).mono ?_
   rintro e w2 ⟨rfl,hb2⟩
   have hw2:=(Hbi.out.trans (hb2.mono Hbi.out.size)).alloc (Nat.le_trans Hbi.out.size hb2.size) (.cells zero6 27)
   have Hw2:=Lib.hid hw2
   clear hw2
   clear hb2
   go_wp2
   rw[←HPO.out]
   exact Hf.out _ Hw2.out
 subst h0
 have hO:=HOk.out wi Hbi.out rfl
 have hf:=Hfin.out
 simp only[if_true]at hf
 have HO:=Lib.hid hO
 have Hf:=Lib.hid hf
 clear hO hf
 clear HNo HOk Hfin
 go_wp2_with (fail)
 with_reducible refine(HO.out).mono ?_
 rintro e w2 ⟨hb2,oa,oc,rfl,hf2⟩
 have hw2:=(Hbi.out.trans (hb2.mono Hbi.out.size)).alloc (Nat.le_trans Hbi.out.size hb2.size) (.cells #[.int .i64 6,.bool false,.int .i64 0,.string ⟨#[]⟩,.slice none 0 0,.slice oa 2 oc] 27)
 have hX:=HTx.out _ oa oc hw2 trivial (hf2.later (alloc_below w2 _)).now
 have Hw2:=Lib.hid hw2
 have HX:=Lib.hid hX
 clear hw2 hX
 clear hb2 hf2
 go_wp2_with (fail)
 with_reducible refine(HX.out).mono ?_
 rintro e w4 ⟨rfl,hb4⟩
 have hw4:=Hw2.out.trans (hb4.mono Hw2.out.size)
 have Hw4:=Lib.hid hw4
 clear hw4
 clear hb4
 go_wp2
 rw[←HPO.out]
 exact Hf.out _ Hw4.out
end Go.Proofs.YtkkbplakgldlpaaGreatDoor

namespace Go.Proofs.YtkkbplakgldlpaaGreatDoor
open Go Go.RowKit
theorem kn11_h0 (w:World):Holds w w.heap.size (dM kn11M0) [.int .i64 3,.string ⟨#[110]⟩,.string ⟨#[]⟩,.int .i64 2,.bool false,.int .i64 0,.bool false,.int .i64 0,.string ⟨#[]⟩,.slice none 0 0,.slice none 0 0,.bool false,.int .i64 0,.bool false,.int .i64 0,.string ⟨#[]⟩,.slice none 0 0,.slice none 0 0,.slice none 0 0]:=
 (fresh_mut (b:=0) (w:=w) 3 ⟨#[110]⟩ nil0 2 false false (fresh_z6 _ _) (fresh_z6 _ _) (fresh_row0 _ _ _)).now
theorem kn11_i1 (w:World):Fresh 0 w (dV (iv 1)) [.int .i64 3,.bool false,.int .i64 1,.string ⟨#[]⟩,.slice none 0 0,.slice none 0 0]:=fun w'' _ _=>by
 refine holds_of_V _ _ ?_
 simp only[iv,HoldsV]
 exact⟨none,0,none,0,rfl,by simp,by simp⟩
theorem kn11_h1 (w:World):Holds w w.heap.size (dM kn11M1) [.int .i64 4,.string ⟨#[107]⟩,.string ⟨#[]⟩,.int .i64 0,.bool false,.int .i64 0,.bool false,.int .i64 0,.string ⟨#[]⟩,.slice none 0 0,.slice none 0 0,.bool true,.int .i64 3,.bool false,.int .i64 1,.string ⟨#[]⟩,.slice none 0 0,.slice none 0 0,.slice none 0 0]:=
 (fresh_mut (b:=0) (w:=w) 4 ⟨#[107]⟩ nil0 0 false true (fresh_z6 _ _) (kn11_i1 w) (fresh_row0 _ _ _)).now
theorem kn11_s0:textS (mutV kn11M0)=⟨#[123,34,97,114,103,115,34,58,123,34,98,121,34,58,50,44,34,107,101,121,34,58,34,110,34,125,44,34,110,97,109,101,34,58,34,105,110,99,34,125]⟩:=by
 unfold textS
 rw[if_pos (by decide+kernel),kn11_t0]
theorem kn11_s1:textS (mutV kn11M1)=⟨#[123,34,97,114,103,115,34,58,123,34,105,115,34,58,49,44,34,107,101,121,34,58,34,107,34,125,44,34,110,97,109,101,34,58,34,99,97,115,34,125]⟩:=by
 unfold textS
 rw[if_pos (by decide+kernel),kn11_t1]
theorem read_small {s:List UInt8} (h:s.length≤10000000) (v:Val) (q:Nat) (e:parseL s=.ok v q):v.bulk≤100000000∧((readM 65 v).1=0→bulkM (readM 65 v).2≤100000000∧inM (readM 65 v).2):=by
 obtain⟨_,_,h3,h2⟩:=parse_may e
 exact⟨by omega,fun h0=>⟨by have:=readM_bulk 65 v h0;omega,readM_in 65 v h2⟩⟩
abbrev kn11S0:ByteArray:=⟨#[123,34,97,114,103,115,34,58,123,125,44,34,110,97,109,101,34,58,34,100,101,108,34,125]⟩
abbrev kn11S1:ByteArray:=⟨#[123,34,97,114,103,115,34,58,123,34,107,101,121,34,58,49,125,44,34,110,97,109,101,34,58,34,100,101,108,34,125]⟩
abbrev kn11S2:ByteArray:=⟨#[123,34,97,114,103,115,34,58,123,34,107,101,121,34,58,34,34,125,44,34,110,97,109,101,34,58,34,100,101,108,34,125]⟩
abbrev kn11S3:ByteArray:=⟨#[123,34,97,114,103,115,34,58,49,44,34,110,97,109,101,34,58,34,120,34,125]⟩
set_option maxRecDepth 100000 in
set_option maxHeartbeats 8000000 in
theorem known11_calls (w:World) (hT:Tabs w) (hNT:NumT w) (hN:MNames w):Calls Tryz.prog 11 #[] w fun e w'=>e=.returned (.bool true)∧Below w.heap.size w w':=by
 have h0:=mutText_calls kn11M0 _ w hT hN (kn11_h0 w) (by decide) (by simp[kn11M0,inM,inMs,inV,inL,inO])
 have h1:=fun(W:World) (hB:Below w.heap.size w W)=>mutText_calls kn11M1 _ W (hT.below hB) (hN.below hB) (kn11_h1 W) (by decide) (by simp[kn11M1,iv,inM,inMs,inV,inL,inO])
 unfold MTextPost at h0 h1
 rw[if_pos kn11_may0,kn11_may0,kn11_s0]at h0
 rw[if_pos kn11_may1,kn11_may1,kn11_s1]at h1
 have f0:=fun(W:World) (hB:Below w.heap.size w W)=>falls_calls kn11S0 10 W (hT.below hB) (hNT.below hB) (by decide) kn11_f0 (read_small (by decide))
 have f1:=fun(W:World) (hB:Below w.heap.size w W)=>falls_calls kn11S1 9 W (hT.below hB) (hNT.below hB) (by decide) kn11_f1 (read_small (by decide))
 have f2:=fun(W:World) (hB:Below w.heap.size w W)=>falls_calls kn11S2 8 W (hT.below hB) (hNT.below hB) (by decide) kn11_f2 (read_small (by decide))
 have f3:=fun(W:World) (hB:Below w.heap.size w W)=>falls_calls kn11S3 12 W (hT.below hB) (hNT.below hB) (by decide) kn11_f3 (read_small (by decide))
 have H0:=Lib.hid h0
 have H1:=Lib.hid h1
 have F0:=Lib.hid f0
 have F1:=Lib.hid f1
 have F2:=Lib.hid f2
 have F3:=Lib.hid f3
 clear h0 h1 f0 f1 f2 f3
 clear hT hNT hN
 go_enter Tryz.func11,Tryz.ntmps11
 go_wp2_with (fail)
 with_reducible refine(H0.out).mono ?_
 rintro e w1 ⟨hb1,rfl⟩
 have Hb1:=Lib.hid hb1
 clear hb1
 go_wp2_with (fail)
 with_reducible refine(H1.out _ Hb1.out).mono ?_
 rintro e w2 ⟨hb2,rfl⟩
 have hw2:=Hb1.out.trans (hb2.mono Hb1.out.size)
 have Hw2:=Lib.hid hw2
 clear hw2
 clear hb2
 go_wp2_with (fail)
 with_reducible refine(F0.out _ Hw2.out).mono ?_
 rintro e w3 ⟨rfl,hb3⟩
 have hw3:=Hw2.out.trans (hb3.mono Hw2.out.size)
 have Hw3:=Lib.hid hw3
 clear hw3
 clear hb3
 go_wp2_with (fail)
 with_reducible refine(F1.out _ Hw3.out).mono ?_
 rintro e w4 ⟨rfl,hb4⟩
 have hw4:=Hw3.out.trans (hb4.mono Hw3.out.size)
 have Hw4:=Lib.hid hw4
 clear hw4
 clear hb4
 go_wp2_with (fail)
 with_reducible refine(F2.out _ Hw4.out).mono ?_
 rintro e w5 ⟨rfl,hb5⟩
 have hw5:=Hw4.out.trans (hb5.mono Hw4.out.size)
 have Hw5:=Lib.hid hw5
 clear hw5
 clear hb5
 go_wp2_with (fail)
 with_reducible refine(F3.out _ Hw5.out).mono ?_
 rintro e w6 ⟨rfl,hb6⟩
 have hw6:=Hw5.out.trans (hb6.mono Hw5.out.size)
 have Hw6:=Lib.hid hw6
 clear hw6
 clear hb6
 go_wp2
 go_ret
 exact⟨rfl,Hw6.out⟩
end Go.Proofs.YtkkbplakgldlpaaGreatDoor
