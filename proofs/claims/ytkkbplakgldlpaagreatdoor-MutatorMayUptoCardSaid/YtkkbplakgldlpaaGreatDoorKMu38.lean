/- Parts, joined: commonplaceref11.Equal: yes of a mutator and itself alone. Condition: bulks of at most 10^8. -/
import Derived.Test.YtkkbplakgldlpaaGreatDoorProg
import Derived.Deep.RegionHeld3
import Derived.Test.YtkkbplakgldlpaaGreatDoorKMu18
import Derived.Test.YtkkbplakgldlpaaGreatDoorKMu22
import Derived.Test.YtkkbplakgldlpaaGreatDoorKMu25
import Derived.Test.YtkkbplakgldlpaaGreatDoorKMu33
namespace Go.Proofs.YtkkbplakgldlpaaGreatDoor
open Go Go.RowKit
def EMA (w:World) (b1 b2:Array Value) (wr:World):Prop:=Below w.heap.size w wr∧Blk wr w.heap.size 30 b1∧Blk wr (w.heap.size+1) 30 b2
theorem EMA.step {w:World} {b1 b2:Array Value} {wr w4:World} (h:EMA w b1 b2 wr) (hb:Below wr.heap.size wr w4):EMA w b1 b2 w4:=⟨h.1.trans (hb.mono h.1.size),h.2.1.below hb h.2.1.lt,h.2.2.below hb h.2.2.lt⟩
def EqMC (m:Mut):Prop:= ∀(m':Mut) (cs cs':List Value) (w:World),Holds w w.heap.size (dM m) cs→Holds w w.heap.size (dM m') cs'→bulkM m≤100000000→bulkM m'≤100000000→
 Calls Tryz.prog 23 #[.agg cs.toArray,.agg cs'.toArray] w (EqPost (m=m') w)
set_option maxRecDepth 100000 in
set_option maxHeartbeats 16000000 in
theorem meq_same (k:Int) (key dst:ByteArray) (n:Int) (had has:Bool) (k1:Int) (b1:Bool) (n1:Int) (t1:ByteArray) (l1:List Val) (o1:List (ByteArray×Val)) (k2:Int) (b2:Bool) (n2:Int) (t2:ByteArray) (l2:List Val) (o2:List (ByteArray×Val)) (k1':Int) (b1':Bool) (n1':Int) (t1':ByteArray) (l1':List Val) (o1':List (ByteArray×Val)) (k2':Int) (b2':Bool) (n2':Int) (t2':ByteArray) (l2':List Val) (o2':List (ByteArray×Val)) (la1 oa1:Option Addr) (lc1 oc1:Nat) (la2 oa2:Option Addr) (lc2 oc2:Nat) (la1' oa1':Option Addr) (lc1' oc1':Nat) (la2' oa2':Option Addr) (lc2' oc2':Nat) (l l':List Mut) (a a':Option Addr) (c c':Nat) (w:World)
 (hv1:HoldsV w w.heap.size (.mk k1 b1 n1 t1 l1 o1) [.int .i64 k1,.bool b1,.int .i64 n1,.string t1,.slice la1 l1.length lc1,.slice oa1 o1.length oc1]) (hv2:HoldsV w w.heap.size (.mk k2 b2 n2 t2 l2 o2) [.int .i64 k2,.bool b2,.int .i64 n2,.string t2,.slice la2 l2.length lc2,.slice oa2 o2.length oc2]) (hv1':HoldsV w w.heap.size (.mk k1' b1' n1' t1' l1' o1') [.int .i64 k1',.bool b1',.int .i64 n1',.string t1',.slice la1' l1'.length lc1',.slice oa1' o1'.length oc1']) (hv2':HoldsV w w.heap.size (.mk k2' b2' n2' t2' l2' o2') [.int .i64 k2',.bool b2',.int .i64 n2',.string t2',.slice la2' l2'.length lc2',.slice oa2' o2'.length oc2'])
 (hb1:(Val.mk k1 b1 n1 t1 l1 o1).bulk≤100000000) (hb2:(Val.mk k2 b2 n2 t2 l2 o2).bulk≤100000000) (hb1':(Val.mk k1' b1' n1' t1' l1' o1').bulk≤100000000) (hb2':(Val.mk k2' b2' n2' t2' l2' o2').bulk≤100000000)
 (hl:Holds w w.heap.size (.row 19 (dMs l)) [.slice a l.length c]) (hl':Holds w w.heap.size (.row 19 (dMs l')) [.slice a' l'.length c']) (hln:l.length=l'.length) (hbl:bulkMs l≤100000000) (hbl':bulkMs l'≤100000000) (ih: ∀x ∈ l,EqMC x):
 Calls Tryz.prog 23 #[.agg #[.int .i64 k,.string key,.string dst,.int .i64 n,.bool had,.int .i64 k1,.bool b1,.int .i64 n1,.string t1,.slice la1 l1.length lc1,.slice oa1 o1.length oc1,.bool has,.int .i64 k2,.bool b2,.int .i64 n2,.string t2,.slice la2 l2.length lc2,.slice oa2 o2.length oc2,.slice a l.length c],.agg #[.int .i64 k,.string key,.string dst,.int .i64 n,.bool had,.int .i64 k1',.bool b1',.int .i64 n1',.string t1',.slice la1' l1'.length lc1',.slice oa1' o1'.length oc1',.bool has,.int .i64 k2',.bool b2',.int .i64 n2',.string t2',.slice la2' l2'.length lc2',.slice oa2' o2'.length oc2',.slice a' l.length c']] w (EqPost ((Val.mk k1 b1 n1 t1 l1 o1=.mk k1' b1' n1' t1' l1' o1'∧Val.mk k2 b2 n2 t2 l2 o2=.mk k2' b2' n2' t2' l2' o2')∧l=l') w):=by
 have hls:=bulkMs_len l
 have hQ1:=fun(W:World) (hB:Below w.heap.size w W)=>req_calls (.mk k1 b1 n1 t1 l1 o1) (.mk k1' b1' n1' t1' l1' o1') _ _ W (HoldsV.more hB.size _ _ (hv1.below hB)) (HoldsV.more hB.size _ _ (hv1'.below hB)) hb1 hb1'
 have hQ2:=fun(W:World) (hB:Below w.heap.size w W)=>req_calls (.mk k2 b2 n2 t2 l2 o2) (.mk k2' b2' n2' t2' l2' o2') _ _ W (HoldsV.more hB.size _ _ (hv2.below hB)) (HoldsV.more hB.size _ _ (hv2'.below hB)) hb2 hb2'
 generalize (Val.mk k1 b1 n1 t1 l1 o1=.mk k1' b1' n1' t1' l1' o1')=P1 at hQ1 ⊢
 generalize (Val.mk k2 b2 n2 t2 l2 o2=.mk k2' b2' n2' t2' l2' o2')=P2 at hQ2 ⊢
 have hA0:EMA w #[.int .i64 k,.string key,.string dst,.int .i64 n,.bool had,.int .i64 k1,.bool b1,.int .i64 n1,.string t1,.slice la1 l1.length lc1,.slice oa1 o1.length oc1,.bool has,.int .i64 k2,.bool b2,.int .i64 n2,.string t2,.slice la2 l2.length lc2,.slice oa2 o2.length oc2,.slice a l.length c] #[.int .i64 k,.string key,.string dst,.int .i64 n,.bool had,.int .i64 k1',.bool b1',.int .i64 n1',.string t1',.slice la1' l1'.length lc1',.slice oa1' o1'.length oc1',.bool has,.int .i64 k2',.bool b2',.int .i64 n2',.string t2',.slice la2' l2'.length lc2',.slice oa2' o2'.length oc2',.slice a' l.length c'] ((w.alloc (.cells #[.int .i64 k,.string key,.string dst,.int .i64 n,.bool had,.int .i64 k1,.bool b1,.int .i64 n1,.string t1,.slice la1 l1.length lc1,.slice oa1 o1.length oc1,.bool has,.int .i64 k2,.bool b2,.int .i64 n2,.string t2,.slice la2 l2.length lc2,.slice oa2 o2.length oc2,.slice a l.length c] 30)).alloc (.cells #[.int .i64 k,.string key,.string dst,.int .i64 n,.bool had,.int .i64 k1',.bool b1',.int .i64 n1',.string t1',.slice la1' l1'.length lc1',.slice oa1' o1'.length oc1',.bool has,.int .i64 k2',.bool b2',.int .i64 n2',.string t2',.slice la2' l2'.length lc2',.slice oa2' o2'.length oc2',.slice a' l.length c'] 30)):=by
  refine⟨two_boxes _ _ _,(Blk.new w 30 #[.int .i64 k,.string key,.string dst,.int .i64 n,.bool had,.int .i64 k1,.bool b1,.int .i64 n1,.string t1,.slice la1 l1.length lc1,.slice oa1 o1.length oc1,.bool has,.int .i64 k2,.bool b2,.int .i64 n2,.string t2,.slice la2 l2.length lc2,.slice oa2 o2.length oc2,.slice a l.length c]).alloc _, ?_⟩
  have:=Blk.new (w.alloc (.cells #[.int .i64 k,.string key,.string dst,.int .i64 n,.bool had,.int .i64 k1,.bool b1,.int .i64 n1,.string t1,.slice la1 l1.length lc1,.slice oa1 o1.length oc1,.bool has,.int .i64 k2,.bool b2,.int .i64 n2,.string t2,.slice la2 l2.length lc2,.slice oa2 o2.length oc2,.slice a l.length c] 30)) 30 #[.int .i64 k,.string key,.string dst,.int .i64 n,.bool had,.int .i64 k1',.bool b1',.int .i64 n1',.string t1',.slice la1' l1'.length lc1',.slice oa1' o1'.length oc1',.bool has,.int .i64 k2',.bool b2',.int .i64 n2',.string t2',.slice la2' l2'.length lc2',.slice oa2' o2'.length oc2',.slice a' l.length c']
  rwa [World.size_alloc]at this
 have h00:l.take 0=l'.take 0:=by simp
 have HQ1:=Lib.hid hQ1
 have HQ2:=Lib.hid hQ2
 have HA0:=Lib.hid hA0
 have H00:=Lib.hid h00
 have Hl:=Lib.hid hl
 have Hl':=Lib.hid hl'
 have Hln:=Lib.hid hln
 have Ih:=Lib.hid ih
 clear hQ1 hQ2 hA0 h00 hl hl' hln ih
 clear hv1 hv2 hv1' hv2'
 go_enter Tryz.func23,Tryz.ntmps23
 go_wp2_with (fail)
 have hA01:=HA0.out.1
 with_reducible refine(HQ1.out _ hA01).mono ?_
 rintro e w1 ⟨B1,rfl,hB1,hb1w⟩
 have hA1:=HA0.out.step hb1w
 cases B1 with
 |false=>
  have hno: ¬((P1∧P2)∧l=l'):=fun h=>by have:=hB1.2 h.1.1;cases this
  have HA1:=Lib.hid hA1
  have Hno:=Lib.hid hno
  have HB1:=Lib.hid hB1
  have Hb1w:=Lib.hid hb1w
  clear hA1 hno hB1 hb1w
  go_wp2
  go_ret
  exact EqPost.no Hno.out HA1.out.1
 |true=>
  have hp1:=hB1.1 rfl
  have x12:=hA1.2.1.cell 12
  have y12:=hA1.2.2.cell 12
  have x13:=hA1.2.1.cell 13
  have y13:=hA1.2.2.cell 13
  have x14:=hA1.2.1.cell 14
  have y14:=hA1.2.2.cell 14
  have x15:=hA1.2.1.cell 15
  have y15:=hA1.2.2.cell 15
  have x16:=hA1.2.1.cell 16
  have y16:=hA1.2.2.cell 16
  have x17:=hA1.2.1.cell 17
  have y17:=hA1.2.2.cell 17
  have x18:=hA1.2.1.cell 18
  have y18:=hA1.2.2.cell 18
  have gx:=hA1.2.1.lt
  have gy:=hA1.2.2.lt
  have HA1:=Lib.hid hA1
  have Hp1:=Lib.hid hp1
  have HB1:=Lib.hid hB1
  have Hb1w:=Lib.hid hb1w
  clear hA1 hp1 hB1 hb1w
  go_wp2_with (fail)
  have hA11:=HA1.out.1
  with_reducible refine(HQ2.out _ hA11).mono ?_
  rintro e w2 ⟨B2,rfl,hB2,hb2w⟩
  have hA2:=HA1.out.step hb2w
  clear x12 y12 x13 y13 x14 y14 x15 y15 x16 y16 x17 y17 x18 y18 gx gy
  cases B2 with
  |false=>
   have hno: ¬((P1∧P2)∧l=l'):=fun h=>by have:=hB2.2 h.1.2;cases this
   have HA2:=Lib.hid hA2
   have Hno:=Lib.hid hno
   have HB2:=Lib.hid hB2
   have Hb2w:=Lib.hid hb2w
   clear hA2 hno hB2 hb2w
   go_wp2
   go_ret
   exact EqPost.no Hno.out HA2.out.1
  |true=>
   have hp2:=hB2.1 rfl
   have x18:=hA2.2.1.cell 18
   have gx:=hA2.2.1.lt
   have HA2:=Lib.hid hA2
   have Hp2:=Lib.hid hp2
   have HB2:=Lib.hid hB2
   have Hb2w:=Lib.hid hb2w
   clear hA2 hp2 hB2 hb2w
   go_wp2_with (fail)
   clear x18 gx
   go_loopw [5] (fun i wr=> ∃q:Nat,i=.int .i64 q∧q≤l.length∧Hid (l.take q=l'.take q)∧Hid (EMA w #[.int .i64 k,.string key,.string dst,.int .i64 n,.bool had,.int .i64 k1,.bool b1,.int .i64 n1,.string t1,.slice la1 l1.length lc1,.slice oa1 o1.length oc1,.bool has,.int .i64 k2,.bool b2,.int .i64 n2,.string t2,.slice la2 l2.length lc2,.slice oa2 o2.length oc2,.slice a l.length c] #[.int .i64 k,.string key,.string dst,.int .i64 n,.bool had,.int .i64 k1',.bool b1',.int .i64 n1',.string t1',.slice la1' l1'.length lc1',.slice oa1' o1'.length oc1',.bool has,.int .i64 k2',.bool b2',.int .i64 n2',.string t2',.slice la2' l2'.length lc2',.slice oa2' o2'.length oc2',.slice a' l.length c'] wr)) (fun i _=>l.length - (intOf i).toNat)
   case atStart=>exact⟨0,rfl,Nat.zero_le _,H00,HA2⟩
   case round=>
    obtain⟨q,rfl,hq,htk,hea⟩:=hrel
    clear H00 HA2
    have m1:=hea.out.2.1.cell 18
    have m2:=hea.out.2.2.cell 18
    have gx:=hea.out.2.1.lt
    have gy:=hea.out.2.2.lt
    by_cases hlt:q<l.length
    · have hlt':q<l'.length:=by have:=Hln.out;omega
      obtain⟨x,hx⟩: ∃v,l[q]? =some v:=⟨_,List.getElem?_eq_getElem hlt⟩
      obtain⟨x',hx'⟩: ∃v,l'[q]? =some v:=⟨_,List.getElem?_eq_getElem hlt'⟩
      have ihx:=Ih.out _ (List.mem_of_getElem? hx)
      have hbv:=bulkMs_mem (List.mem_of_getElem? hx)
      have hbv':=bulkMs_mem (List.mem_of_getElem? hx')
      have hbw:=hea.out.1
      have hz:=hbw.size
      have hT:=fun e=>take_eq_of htk.out hx hx' e
      have hNe:=fun e=>ne_of_at hx hx' e
      obtain⟨g,off,rfl,hg,cs1,hcs1,hn1l,hcell1⟩:=mut_at (Hl.out.below hbw) hx
      obtain⟨g',off',rfl,hg',cs2,hcs2,hn2l,hcell2⟩:=mut_at (Hl'.out.below hbw) hx'
      have hC: ∀W,Below wr.heap.size wr W→Calls Tryz.prog 23 #[.agg cs1.toArray,.agg cs2.toArray] W (EqPost (x=x') W):=fun W hW=>
       ihx _ _ _ W ((hcs1.below (hW.mono hz)).more (Nat.le_trans hz hW.size)) ((hcs2.below (hW.mono hz)).more (Nat.le_trans hz hW.size)) (by omega) (by omega)
      have hr1:wr.rangeAt g (off+q*19) cs1:=hcell1
      have hr2:wr.rangeAt g' (off'+q*19) cs2:=hcell2
      have hn1:(Tryz.prog.info? 30).map (·.size)=some cs1.length:=by rw[hn1l];kernel_rfl
      have hn2:(Tryz.prog.info? 30).map (·.size)=some cs2.length:=by rw[hn2l];kernel_rfl
      have z1:g<wr.heap.size:=by omega
      have z2:g'<wr.heap.size:=by omega
      have z5:(q:Int)<(l.length:Int):=by omega
      have z6:(0:Int)≤q:=by omega
      have hkeep: ∀W,Below wr.heap.size wr W→(fun X=>X.cell? ⟨w.heap.size,18,none⟩=some (.slice (some ⟨g,off,none⟩) l.length c)∧X.cell? ⟨w.heap.size+1,18,none⟩=some (.slice (some ⟨g',off',none⟩) l.length c')∧X.rangeAt g (off+q*19) cs1∧X.rangeAt g' (off'+q*19) cs2) W:=fun W hW=>⟨(hW.cell (p:=⟨w.heap.size,18,none⟩) gx).trans m1,(hW.cell (p:=⟨w.heap.size+1,18,none⟩) gy).trans m2,fun j v hv=>(hW.cell (p:=⟨g,off+q*19+j,none⟩) z1).trans (hr1 j v hv),fun j v hv=>(hW.cell (p:=⟨g',off'+q*19+j,none⟩) z2).trans (hr2 j v hv)⟩
      have HC:=Lib.hid hC
      have HT:=Lib.hid hT
      have HNe:=Lib.hid hNe
      have Hkeep:=Lib.hid hkeep
      have Hr1:=Lib.hid hr1
      have Hr2:=Lib.hid hr2
      have Hn1l:=Lib.hid hn1l
      have Hn2l:=Lib.hid hn2l
      clear hC hT hNe hkeep hr1 hr2 hn1l hn2l
      clear hbw hcs1 hcs2 hx hx' ihx hcell1 hcell2 htk
      go_upto_region 6 with(fail)
      refine wp_region_held_drew (S:=(fun X=>X.cell? ⟨w.heap.size,18,none⟩=some (.slice (some ⟨g,off,none⟩) l.length c)∧X.cell? ⟨w.heap.size+1,18,none⟩=some (.slice (some ⟨g',off',none⟩) l.length c')∧X.rangeAt g (off+q*19) cs1∧X.rangeAt g' (off'+q*19) cs2)) (by kernel_rfl) (Hkeep.out _ (Below.drew (Below.refl _ _))) (fun hHeld=> ?_)
      refine wpAnyH_take (i:=0) (v:= ?_) rfl (by kernel_rfl) (by kernel_rfl) (by kernel_rfl) (fun _ _ _ h=>h) (Or.inl ⟨by kernel_rfl, ?_⟩) hHeld ?_
      rotate_left
      · intro X hSw
        skip
        first|(go_simp;done)|(go_simp;with_reducible rfl)
      try simp only[Act.put,List.getElem_toArray,List.getElem_cons_zero,List.setIfInBounds_toArray,List.set_cons_zero,List.set_cons_succ]
      refine wpAnyH_take (i:=1) (v:= ?_) rfl (by kernel_rfl) (by kernel_rfl) (by kernel_rfl) (fun _ _ _ h=>h) (Or.inl ⟨by kernel_rfl, ?_⟩) hHeld ?_
      rotate_left
      · intro X hSw
        have e4:=hSw.1
        first|(go_simp;done)|(go_simp;with_reducible rfl)
      try simp only[Act.put,List.getElem_toArray,List.getElem_cons_succ,List.getElem_cons_zero,List.setIfInBounds_toArray,List.set_cons_zero,List.set_cons_succ]
      refine wpAnyH_take (i:=2) (v:= ?_) rfl (by kernel_rfl) (by kernel_rfl) (by kernel_rfl) (fun _ _ _ h=>h) (Or.inl ⟨by kernel_rfl, ?_⟩) hHeld ?_
      rotate_left
      · intro X hSw
        skip
        first|(go_simp;done)|(go_simp;with_reducible rfl)
      try simp only[Act.put,List.getElem_toArray,List.getElem_cons_succ,List.getElem_cons_zero,List.setIfInBounds_toArray,List.set_cons_zero,List.set_cons_succ]
      refine wpAnyH_take (i:=3) (v:= ?_) rfl (by kernel_rfl) (by kernel_rfl) (by kernel_rfl) (fun _ _ _ h=>h) (Or.inl ⟨by kernel_rfl, ?_⟩) hHeld ?_
      rotate_left
      · intro X hSw
        skip
        first|(go_simp;done)|(go_simp;with_reducible rfl)
      try simp only[Act.put,List.getElem_toArray,List.getElem_cons_succ,List.getElem_cons_zero,List.setIfInBounds_toArray,List.set_cons_zero,List.set_cons_succ]
      refine wpAnyH_take (i:=4) rfl (by kernel_rfl) (by kernel_rfl) (by kernel_rfl) (fun _ _ _ h=>h) (yieldsIf_load_mid (by kernel_rfl) 30 (.tmp 81) rfl g (off+q*19) rfl cs1 _ (fun X hX=>hX.2.2.1) Tryz.underlying30 rfl hn1) hHeld ?_
      try simp only[Act.put,List.getElem_toArray,List.getElem_cons_succ,List.getElem_cons_zero,List.setIfInBounds_toArray,List.set_cons_zero,List.set_cons_succ]
      refine wpAnyH_take (i:=5) (v:= ?_) rfl (by kernel_rfl) (by kernel_rfl) (by kernel_rfl) (fun _ _ _ h=>h) (Or.inl ⟨by kernel_rfl, ?_⟩) hHeld ?_
      rotate_left
      · intro X hSw
        skip
        first|(go_simp;done)|(go_simp;with_reducible rfl)
      try simp only[Act.put,List.getElem_toArray,List.getElem_cons_succ,List.getElem_cons_zero,List.setIfInBounds_toArray,List.set_cons_zero,List.set_cons_succ]
      refine wpAnyH_take (i:=6) (v:= ?_) rfl (by kernel_rfl) (by kernel_rfl) (by kernel_rfl) (fun _ _ _ h=>h) (Or.inl ⟨by kernel_rfl, ?_⟩) hHeld ?_
      rotate_left
      · intro X hSw
        have e4:=hSw.2.1
        first|(go_simp;done)|(go_simp;with_reducible rfl)
      try simp only[Act.put,List.getElem_toArray,List.getElem_cons_succ,List.getElem_cons_zero,List.setIfInBounds_toArray,List.set_cons_zero,List.set_cons_succ]
      refine wpAnyH_take (i:=7) (v:= ?_) rfl (by kernel_rfl) (by kernel_rfl) (by kernel_rfl) (fun _ _ _ h=>h) (Or.inl ⟨by kernel_rfl, ?_⟩) hHeld ?_
      rotate_left
      · intro X hSw
        skip
        first|(go_simp;done)|(go_simp;with_reducible rfl)
      try simp only[Act.put,List.getElem_toArray,List.getElem_cons_succ,List.getElem_cons_zero,List.setIfInBounds_toArray,List.set_cons_zero,List.set_cons_succ]
      refine wpAnyH_take (i:=8) (v:= ?_) rfl (by kernel_rfl) (by kernel_rfl) (by kernel_rfl) (fun _ _ _ h=>h) (Or.inl ⟨by kernel_rfl, ?_⟩) hHeld ?_
      rotate_left
      · intro X hSw
        skip
        first|(go_simp;done)|(go_simp;with_reducible rfl)
      try simp only[Act.put,List.getElem_toArray,List.getElem_cons_succ,List.getElem_cons_zero,List.setIfInBounds_toArray,List.set_cons_zero,List.set_cons_succ]
      refine wpAnyH_take (i:=9) rfl (by kernel_rfl) (by kernel_rfl) (by kernel_rfl) (fun _ _ _ h=>h) (yieldsIf_load_mid (by kernel_rfl) 30 (.tmp 86) rfl g' (off'+q*19) rfl cs2 _ (fun X hX=>hX.2.2.2) Tryz.underlying30 rfl hn2) hHeld ?_
      try simp only[Act.put,List.getElem_toArray,List.getElem_cons_succ,List.getElem_cons_zero,List.setIfInBounds_toArray,List.set_cons_zero,List.set_cons_succ]
      refine wpAnyH_ready (rs:= [10]) (by kernel_rfl) (by simp) ?_
      refine AllReadyH.cons rfl (fun K hK=> ?_) AllReadyH.nil
      go_simp
      (with_reducible refine(HC.out _ (Below.drew (Below.refl _ _))).mono ?_)
      rintro e w4 ⟨B,rfl,hB,hb4⟩
      have hbr:Below wr.heap.size wr w4:=(Below.drew (Below.refl _ _)).trans hb4
      have HE4:=Lib.hid (hea.out.step hbr)
      refine hK.out _ _ (Hkeep.out _ hbr) (fun hHeld=> ?_)
      clear hK K
      try simp only[Act.put,List.getElem_toArray,List.getElem_cons_succ,List.getElem_cons_zero,List.setIfInBounds_toArray,List.set_cons_zero,List.set_cons_succ]
      refine wpAnyH_take (i:=11) (v:= ?_) rfl (by kernel_rfl) (by kernel_rfl) (by kernel_rfl) (fun _ _ _ h=>h) (Or.inl ⟨by kernel_rfl, ?_⟩) hHeld ?_
      rotate_left
      · intro X hSw
        skip
        first|(go_simp;done)|(go_simp;with_reducible rfl)
      try simp only[Act.put,List.getElem_toArray,List.getElem_cons_succ,List.getElem_cons_zero,List.setIfInBounds_toArray,List.set_cons_zero,List.set_cons_succ]
      refine wpAnyH_done (by kernel_rfl) ?_ _
      clear hHeld hb4 hbr hea m1 m2
      cases B with
      |true=>
       have HT':=Lib.hid (HT.out (hB.1 rfl))
       clear hB HT HNe
       go_wp2
       go_roundw
       case rel=>exact⟨q+1,by go_num,by omega,HT',HE4⟩
       case measure=>simp only[intOf];omega
      |false=>
       have hno: ¬((P1∧P2)∧l=l'):=fun h=>HNe.out (fun e=>by have:=hB.2 e;cases this) h.2
       have Hno:=Lib.hid hno
       clear hB HT HNe hno
       go_wp2
       go_ret
       exact EqPost.no Hno.out HE4.out.1
    · obtain rfl:q=l.length:=by omega
      have hE:=htk.out
      rw[List.take_length,Hln.out,List.take_length]at hE
      have HE:=Lib.hid hE
      clear hE
      clear htk
      go_wp2
      go_ret
      exact EqPost.yes ⟨⟨Hp1.out,Hp2.out⟩,HE.out⟩ hea.out.1
theorem meq_calls: ∀m,EqMC m:=by
 refine Mut.ind ?_
 intro k key dst n had was has v l IH m' cs cs' w hM hM' hb hb'
 obtain⟨k1,b1,n1,t1,l1,o1⟩:=was
 obtain⟨k2,b2,n2,t2,l2,o2⟩:=v
 obtain⟨la1,lc1,oa1,oc1,la2,lc2,oa2,oc2,a,c,rfl,hv1,hv2,hl⟩:=mut_cells hM
 obtain⟨k',key',dst',n',had',⟨k1',b1',n1',t1',l1',o1'⟩,has',⟨k2',b2',n2',t2',l2',o2'⟩,l'⟩:=m'
 obtain⟨la1',lc1',oa1',oc1',la2',lc2',oa2',oc2',a',c',rfl,hv1',hv2',hl'⟩:=mut_cells hM'
 simp only[bulkM]at hb hb'
 by_cases hd:k≠k'∨key≠key'∨dst≠dst'∨n≠n'∨had≠had'∨has≠has'∨l.length≠l'.length
 · refine meq_diff _ _ _ _ _ _ _ _ _ _ _ _ _ _ _ _ _ _ _ _ _ _ _ _ _ _ _ _ _ _ _ _ _ _ _ _ _ _ _ _ _ _ w _ (fun e=> ?_) hd
   injection e with e1 e2 e3 e4 e5 e6 e7 e8 e9
   subst e9
   rcases hd with h|h|h|h|h|h|h
   · exact h e1
   · exact h e2
   · exact h e3
   · exact h e4
   · exact h e5
   · exact h e7
   · exact h rfl
 · obtain⟨rfl,rfl,rfl,rfl,rfl,rfl,hln⟩:k=k'∧key=key'∧dst=dst'∧n=n'∧had=had'∧has=has'∧l.length=l'.length:=by
    refine⟨Classical.byContradiction fun e=>hd (.inl e),Classical.byContradiction fun e=>hd (.inr (.inl e)),Classical.byContradiction fun e=>hd (.inr (.inr (.inl e))),Classical.byContradiction fun e=>hd (.inr (.inr (.inr (.inl e)))),Classical.byContradiction fun e=>hd (.inr (.inr (.inr (.inr (.inl e))))),Classical.byContradiction fun e=>hd (.inr (.inr (.inr (.inr (.inr (.inl e)))))),Classical.byContradiction fun e=>hd (.inr (.inr (.inr (.inr (.inr (.inr e))))))⟩
   have h:=meq_same k key dst n had has k1 b1 n1 t1 l1 o1 k2 b2 n2 t2 l2 o2 k1' b1' n1' t1' l1' o1' k2' b2' n2' t2' l2' o2' la1 oa1 lc1 oc1 la2 oa2 lc2 oc2 la1' oa1' lc1' oc1' la2' oa2' lc2' oc2' l l' a a' c c' w hv1 hv2 hv1' hv2' (by omega) (by omega) (by omega) (by omega) hl hl' hln (by omega) (by omega) IH
   rw[←hln]
   refine h.mono ?_
   rintro e w' ⟨B,rfl,hB,hbw⟩
   refine⟨B,rfl,hB.trans ⟨?_, ?_⟩,hbw⟩
   · rintro⟨⟨e1,e2⟩,e3⟩
     rw[e1,e2,e3]
   · intro e
     injection e with e1 e2 e3 e4 e5 e6 e7 e8 e9
     exact⟨⟨e6,e8⟩,e9⟩
end Go.Proofs.YtkkbplakgldlpaaGreatDoor
