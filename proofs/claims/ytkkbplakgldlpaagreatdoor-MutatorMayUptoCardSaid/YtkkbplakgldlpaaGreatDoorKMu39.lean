/- Parts, joined: What MutSeq writes: the pairs. Condition: values of a bulk of at most 10^8, at most 10^6 mutators; what writes one keeps its word. -/
import Derived.Test.YtkkbplakgldlpaaGreatDoorProg
import Derived.Deep.RegionHeld3
import Derived.Test.YtkkbplakgldlpaaGreatDoorKMu22
import Derived.Test.YtkkbplakgldlpaaGreatDoorKMu25
import Derived.Test.YtkkbplakgldlpaaGreatDoorKMu32
namespace Go.Proofs.YtkkbplakgldlpaaGreatDoor
open Go Go.RowKit
def WritePost (m:Mut) (w:World) (e:Ending) (w':World):Prop:=Below w.heap.size w w'∧
 ∃oa oc,e=.returned (.agg #[.int .i64 6,.bool false,.int .i64 0,.string ⟨#[]⟩,.slice none 0 0,.slice oa 2 oc])∧Fresh w.heap.size w' (dV (mutV m)) [.int .i64 6,.bool false,.int .i64 0,.string ⟨#[]⟩,.slice none 0 0,.slice oa 2 oc]
structure LQ (w:World) (box:Array Value) (l:List Mut) (q:Nat) (wr:World) (V:Value):Prop where
 below:Below w.heap.size w wr
 box:Blk wr w.heap.size 30 box
 var:Blk wr (w.heap.size+1) 27 #[.int .i64 5,.bool false,.int .i64 0,.string ⟨#[]⟩,V,.slice none 0 0]
 row:RowD (w.heap.size+2) 27 6 wr (dL ((mutVs l).take q)) V
set_option maxRecDepth 100000 in
set_option maxHeartbeats 8000000 in
theorem wseq_loop (y0:Value) (key:ByteArray) (y2 y3:Value) (had:Bool) (k:Int) (b:Bool) (n:Int) (t:ByteArray) (lv':List Val) (ov':List (ByteArray×Val)) (la oa:Option Addr) (lc oc:Nat) (y11 y12 y13 y14 y15 y16 y17:Value) (l:List Mut) (a:Option Addr) (c A W:Nat) (w:World)
 (hV:HoldsV w w.heap.size (.mk k b n t lv' ov') [.int .i64 k,.bool b,.int .i64 n,.string t,.slice la lv'.length lc,.slice oa ov'.length oc]) (hbV:(Val.mk k b n t lv' ov').bulk≤100000000)
 (hl:Holds w w.heap.size (.row 19 (dMs l)) [.slice a l.length c]) (hlen:l.length≤1000000)
 (hbox:w.cell? ⟨W,0,none⟩=some (.func (.func 81) #[] #[.pointer (some ⟨A,0,none⟩)])) (hW:W<w.heap.size)
 (ih: ∀x ∈ l,∀W' cs,Below w.heap.size w W'→Holds W' W'.heap.size (dM x) cs→Calls Tryz.prog 81 #[.agg cs.toArray,.pointer (some ⟨A,0,none⟩)] W' (WritePost x W')):
 Calls Tryz.prog 118 #[.agg #[y0,.string key,y2,y3,.bool had,.int .i64 k,.bool b,.int .i64 n,.string t,.slice la lv'.length lc,.slice oa ov'.length oc,y11,y12,y13,y14,y15,y16,y17,.slice a l.length c],.pointer (some ⟨W,0,none⟩)] w
  (PairsPost ((kDo,lv (mutVs l))::(if key.toList.isEmpty then []else [(kIf,ov (guardO key had (.mk k b n t lv' ov')))])) w):=by
 obtain⟨j0,hj,hy0,hy1,hy2⟩:=info_parts val_info
 have hI0:LQ w #[y0,.string key,y2,y3,.bool had,.int .i64 k,.bool b,.int .i64 n,.string t,.slice la lv'.length lc,.slice oa ov'.length oc,y11,y12,y13,y14,y15,y16,y17,.slice a l.length c] l 0 ((w.alloc (.cells #[y0,.string key,y2,y3,.bool had,.int .i64 k,.bool b,.int .i64 n,.string t,.slice la lv'.length lc,.slice oa ov'.length oc,y11,y12,y13,y14,y15,y16,y17,.slice a l.length c] 30)).alloc (.cells #[.int .i64 5,.bool false,.int .i64 0,.string ⟨#[]⟩,.slice none 0 0,.slice none 0 0] 27)) (.slice none 0 0):=by
  exact⟨((Below.refl _ _).alloc (Nat.le_refl _) _).alloc (by simp) _,(Blk.new _ _ _).alloc _,by simpa using Blk.new (w.alloc (.cells #[y0,.string key,y2,y3,.bool had,.int .i64 k,.bool b,.int .i64 n,.string t,.slice la lv'.length lc,.slice oa ov'.length oc,y11,y12,y13,y14,y15,y16,y17,.slice a l.length c] 30)) 27 #[.int .i64 5,.bool false,.int .i64 0,.string ⟨#[]⟩,.slice none 0 0,.slice none 0 0],by simpa[dL]using RowD.nil _ _ _ _⟩
 obtain⟨O,hO⟩: ∃O,(kDo,lv (mutVs l))::(if key.toList.isEmpty then []else [(kIf,ov (guardO key had (.mk k b n t lv' ov')))])=O:=⟨_,rfl⟩
 rw[hO]
 have Hj:=Lib.hid hj
 have Hy0:=Lib.hid hy0
 have Hy1:=Lib.hid hy1
 have Hy2:=Lib.hid hy2
 have HV:=Lib.hid hV
 have Hl:=Lib.hid hl
 have Ih:=Lib.hid ih
 have Hbox:=Lib.hid hbox
 have HO:=Lib.hid hO
 clear hj hy0 hy1 hy2 hV hl ih hbox hO
 go_enter Tryz.func118,Tryz.ntmps118
 go_upto_region 2 with(fail)
 obtain⟨w0,hw0⟩: ∃w0,(w.alloc (.cells #[y0,.string key,y2,y3,.bool had,.int .i64 k,.bool b,.int .i64 n,.string t,.slice la lv'.length lc,.slice oa ov'.length oc,y11,y12,y13,y14,y15,y16,y17,.slice a l.length c] 30)).alloc (.cells #[.int .i64 5,.bool false,.int .i64 0,.string ⟨#[]⟩,.slice none 0 0,.slice none 0 0] 27)=w0:=⟨_,rfl⟩
 rw[hw0]at hI0 ⊢
 clear hw0
 have d18:=hI0.box.cell 18
 have hgb:=hI0.box.lt
 have HI0:=Lib.hid hI0
 clear hI0
 go_wp2_with (fail)
 go_loopw [12] (fun i wr=> ∃q:Nat,i=.int .i64 q∧q≤l.length∧ ∃V,Hid (LQ w #[y0,.string key,y2,y3,.bool had,.int .i64 k,.bool b,.int .i64 n,.string t,.slice la lv'.length lc,.slice oa ov'.length oc,y11,y12,y13,y14,y15,y16,y17,.slice a l.length c] l q wr V)) (fun i _=>l.length - (intOf i).toNat)
 case atStart=>exact⟨0,rfl,Nat.zero_le _,_,HI0⟩
 case round=>
  obtain⟨q,rfl,hq,V,hI⟩:=hrel
  clear HI0 d18
  by_cases hlt:q<l.length
  · obtain⟨m,hm⟩: ∃p,l[q]? =some p:=⟨_,List.getElem?_eq_getElem hlt⟩
    have hmem:=List.mem_of_getElem? hm
    have hbw:=hI.out.below
    have hz:=hbw.size
    have htk:dL ((mutVs l).take q)++ [dV (mutV m)]=dL ((mutVs l).take (q+1)):=by
     rw[List.take_add_one,mutVs_map,List.getElem?_map,hm,dL_map,dL_map];simp
    have hdl:(dL ((mutVs l).take q)).length=q:=by rw[dL_len,List.length_take,mutVs_len];omega
    have hC:=Ih.out m hmem
    obtain⟨k',key',dst',n',had',⟨k1',b1',n1',t1',l1',o1'⟩,has',⟨k2',b2',n2',t2',l2',o2'⟩,l'⟩:=m
    obtain⟨g,off,rfl,hg,cs',hcs,_,hcell⟩:=mut_at (Hl.out.below hbw) hm
    obtain⟨la1',lc1',oa1',oc1',la2',lc2',oa2',oc2',a',c',rfl,_,_,_⟩:=mut_cells hcs
    have hrange:wr.rangeAt g (off+q*19) [.int .i64 k',.string key',.string dst',.int .i64 n',.bool had',.int .i64 k1',.bool b1',.int .i64 n1',.string t1',.slice la1' l1'.length lc1',.slice oa1' o1'.length oc1',.bool has',.int .i64 k2',.bool b2',.int .i64 n2',.string t2',.slice la2' l2'.length lc2',.slice oa2' o2'.length oc2',.slice a' l'.length c']:=hcell
    have hgr:g<wr.heap.size:=by omega
    have hq1:(q:Int)<(l.length:Int):=by omega
    have hq0:(0:Int)≤q:=by omega
    have hC': ∀W',Below wr.heap.size wr W'→Calls Tryz.prog 81 #[.agg #[.int .i64 k',.string key',.string dst',.int .i64 n',.bool had',.int .i64 k1',.bool b1',.int .i64 n1',.string t1',.slice la1' l1'.length lc1',.slice oa1' o1'.length oc1',.bool has',.int .i64 k2',.bool b2',.int .i64 n2',.string t2',.slice la2' l2'.length lc2',.slice oa2' o2'.length oc2',.slice a' l'.length c'],.pointer (some ⟨A,0,none⟩)] W' (WritePost (Mut.mk k' key' dst' n' had' (.mk k1' b1' n1' t1' l1' o1') has' (.mk k2' b2' n2' t2' l2' o2') l') W'):=fun W' hW'=>hC W' _ (hbw.trans (hW'.mono hz)) ((hcs.below (hW'.mono hz)).more (Nat.le_trans hz hW'.size))
    have HC':=Lib.hid hC'
    have Hbw:=Lib.hid hbw
    have Htk:=Lib.hid htk
    clear hC' hbw htk
    clear hC hcs hcell hmem hm
    go_upto_region 4 with(fail)
    iterate 5 go_step
    refine wp_load_mid 30 (.tmp 14) rfl g (off+q*19) rfl [.int .i64 k',.string key',.string dst',.int .i64 n',.bool had',.int .i64 k1',.bool b1',.int .i64 n1',.string t1',.slice la1' l1'.length lc1',.slice oa1' o1'.length oc1',.bool has',.int .i64 k2',.bool b2',.int .i64 n2',.string t2',.slice la2' l2'.length lc2',.slice oa2' o2'.length oc2',.slice a' l'.length c'] _ hrange Tryz.underlying30 rfl (by kernel_rfl) ?_
    iterate 5 go_step
    refine wp_store_new 30 (.tmp 6) (.tmp 15) rfl #[.int .i64 k',.string key',.string dst',.int .i64 n',.bool had',.int .i64 k1',.bool b1',.int .i64 n1',.string t1',.slice la1' l1'.length lc1',.slice oa1' o1'.length oc1',.bool has',.int .i64 k2',.bool b2',.int .i64 n2',.string t2',.slice la2' l2'.length lc2',.slice oa2' o2'.length oc2',.slice a' l'.length c'] rfl rfl rfl (by kernel_rfl) (by simp[Value.oneCell']) ?_
    have hA:=alloc_below wr (.cells #[.int .i64 k',.string key',.string dst',.int .i64 n',.bool had',.int .i64 k1',.bool b1',.int .i64 n1',.string t1',.slice la1' l1'.length lc1',.slice oa1' o1'.length oc1',.bool has',.int .i64 k2',.bool b2',.int .i64 n2',.string t2',.slice la2' l2'.length lc2',.slice oa2' o2'.length oc2',.slice a' l'.length c'] 30)
    have hxv:=hI.out.var.alloc (.cells #[.int .i64 k',.string key',.string dst',.int .i64 n',.bool had',.int .i64 k1',.bool b1',.int .i64 n1',.string t1',.slice la1' l1'.length lc1',.slice oa1' o1'.length oc1',.bool has',.int .i64 k2',.bool b2',.int .i64 n2',.string t2',.slice la2' l2'.length lc2',.slice oa2' o2'.length oc2',.slice a' l'.length c'] 30)
    have hbx:=hI.out.box.alloc (.cells #[.int .i64 k',.string key',.string dst',.int .i64 n',.bool had',.int .i64 k1',.bool b1',.int .i64 n1',.string t1',.slice la1' l1'.length lc1',.slice oa1' o1'.length oc1',.bool has',.int .i64 k2',.bool b2',.int .i64 n2',.string t2',.slice la2' l2'.length lc2',.slice oa2' o2'.length oc2',.slice a' l'.length c'] 30)
    have hrow:=hI.out.row.below hA
    have hba:=hI.out.row.base
    have hgv:=hI.out.var.lt
    have hbo:(wr.alloc (.cells #[.int .i64 k',.string key',.string dst',.int .i64 n',.bool had',.int .i64 k1',.bool b1',.int .i64 n1',.string t1',.slice la1' l1'.length lc1',.slice oa1' o1'.length oc1',.bool has',.int .i64 k2',.bool b2',.int .i64 n2',.string t2',.slice la2' l2'.length lc2',.slice oa2' o2'.length oc2',.slice a' l'.length c'] 30)).cell? ⟨W,0,none⟩=some (.func (.func 81) #[] #[.pointer (some ⟨A,0,none⟩)]):=(hA.cell (p:=⟨W,0,none⟩) (show W<wr.heap.size by omega)).trans ((Hbw.out.cell (p:=⟨W,0,none⟩) hW).trans Hbox.out)
    have hrng:=blk_range (Blk.new wr 30 #[.int .i64 k',.string key',.string dst',.int .i64 n',.bool had',.int .i64 k1',.bool b1',.int .i64 n1',.string t1',.slice la1' l1'.length lc1',.slice oa1' o1'.length oc1',.bool has',.int .i64 k2',.bool b2',.int .i64 n2',.string t2',.slice la2' l2'.length lc2',.slice oa2' o2'.length oc2',.slice a' l'.length c'])
    obtain⟨aV,cV,rfl⟩:=hI.out.row.slice
    have hLo:Hid ((dL ((mutVs l).take q)).length+1≤maxLen∧((dL ((mutVs l).take q)).length+1)*88≤140737488355328):=by rw[hdl];exact⟨by simp only[maxLen];omega,by omega⟩
    have HA:=Lib.hid hA
    have Hbx:=Lib.hid hbx
    have Hrow:=Lib.hid hrow
    have Hdl:=Lib.hid hdl
    have Hba:=Lib.hid hba
    clear hA hbx hrow hdl hba
    go_upto_region 5 with(fail)
    refine wp_region_held_drew (S:=(fun X=>X.cell? ⟨W,0,none⟩=some (.func (.func 81) #[] #[.pointer (some ⟨A,0,none⟩)])∧X.rangeAt wr.heap.size 0 [.int .i64 k',.string key',.string dst',.int .i64 n',.bool had',.int .i64 k1',.bool b1',.int .i64 n1',.string t1',.slice la1' l1'.length lc1',.slice oa1' o1'.length oc1',.bool has',.int .i64 k2',.bool b2',.int .i64 n2',.string t2',.slice la2' l2'.length lc2',.slice oa2' o2'.length oc2',.slice a' l'.length c'])) (by kernel_rfl) ⟨hbo,hrng⟩ (fun hHeld=> ?_)
    have Hxv:=Lib.hid hxv
    have Hbo:=Lib.hid hbo
    have Hrng:=Lib.hid hrng
    clear hxv hbo hrng
    refine wpAnyH_take (i:=0) (v:= ?_) rfl (by kernel_rfl) (by kernel_rfl) (by kernel_rfl) (fun _ _ _ h=>h) (Or.inl ⟨by kernel_rfl, ?_⟩) hHeld ?_
    rotate_left
    · intro X hSw
      skip
      first|(go_simp;done)|(go_simp;with_reducible rfl)
    try simp only[Act.put,List.setIfInBounds_toArray]
    refine wpAnyH_take (i:=2) (v:= ?_) rfl (by kernel_rfl) (by kernel_rfl) (by kernel_rfl) (fun _ _ _ h=>h) (Or.inl ⟨by kernel_rfl, ?_⟩) hHeld ?_
    rotate_left
    · intro X hSw
      have e4:=hSw.1
      first|(go_simp;done)|(go_simp;with_reducible rfl)
    try simp only[Act.put]
    refine wpAnyH_take (i:=3) rfl (by kernel_rfl) (by kernel_rfl) (by kernel_rfl) (fun _ _ _ h=>h) (yieldsIf_load_mid (by kernel_rfl) 30 (.tmp 6) rfl wr.heap.size 0 rfl [.int .i64 k',.string key',.string dst',.int .i64 n',.bool had',.int .i64 k1',.bool b1',.int .i64 n1',.string t1',.slice la1' l1'.length lc1',.slice oa1' o1'.length oc1',.bool has',.int .i64 k2',.bool b2',.int .i64 n2',.string t2',.slice la2' l2'.length lc2',.slice oa2' o2'.length oc2',.slice a' l'.length c'] _ (fun X hX=>hX.2) Tryz.underlying30 rfl (by kernel_rfl)) hHeld ?_
    try simp only[Act.put]
    refine wpAnyH_ready (rs:= [1,4]) (by kernel_rfl) (by simp) ?_
    refine AllReadyH.cons rfl (fun K hK=> ?_) (AllReadyH.cons rfl (fun K hK=> ?_) AllReadyH.nil)
    ·
     have e4:=Hxv.out.drew.cell 4
     go_simp
     refine hK.out _ _ ⟨Hbo.out,Hrng.out⟩ (fun hHeld=> ?_)
     clear hK K
     try simp only[Act.put,List.setIfInBounds_toArray,List.set_cons_zero,List.set_cons_succ]
     refine wpAnyH_ready (rs:= [4]) (by kernel_rfl) (by simp) ?_
     refine AllReadyH.cons rfl (fun K hK=> ?_) AllReadyH.nil
     go_simp
     (with_reducible refine(HC'.out _ HA.out.drew).mono ?_)
     rintro e w4 ⟨hb4,oa4,oc4,rfl,hf4⟩
     have hbr:Below (wr.alloc (.cells #[.int .i64 k',.string key',.string dst',.int .i64 n',.bool had',.int .i64 k1',.bool b1',.int .i64 n1',.string t1',.slice la1' l1'.length lc1',.slice oa1' o1'.length oc1',.bool has',.int .i64 k2',.bool b2',.int .i64 n2',.string t2',.slice la2' l2'.length lc2',.slice oa2' o2'.length oc2',.slice a' l'.length c'] 30)).heap.size (wr.alloc (.cells #[.int .i64 k',.string key',.string dst',.int .i64 n',.bool had',.int .i64 k1',.bool b1',.int .i64 n1',.string t1',.slice la1' l1'.length lc1',.slice oa1' o1'.length oc1',.bool has',.int .i64 k2',.bool b2',.int .i64 n2',.string t2',.slice la2' l2'.length lc2',.slice oa2' o2'.length oc2',.slice a' l'.length c'] 30)) w4:=(Below.drew (Below.refl _ _)).trans hb4
     have hxv4:=Hxv.out.below hbr Hxv.out.lt
     have hS4:=And.intro ((hbr.cell (p:=⟨W,0,none⟩) (by simp;omega)).trans Hbo.out) (blk_range ((Blk.new wr 30 #[.int .i64 k',.string key',.string dst',.int .i64 n',.bool had',.int .i64 k1',.bool b1',.int .i64 n1',.string t1',.slice la1' l1'.length lc1',.slice oa1' o1'.length oc1',.bool has',.int .i64 k2',.bool b2',.int .i64 n2',.string t2',.slice la2' l2'.length lc2',.slice oa2' o2'.length oc2',.slice a' l'.length c']).below hbr (Blk.new _ _ _).lt))
     refine hK.out _ _ hS4 (fun hHeld=> ?_)
     have Hbr:=Lib.hid hbr
     have Hf4:=Lib.hid hf4
     have Hxv4:=Lib.hid hxv4
     have e4:=hxv4.cell 4
     clear hK K hb4 hbr hf4 hxv4
     try simp only[Act.put,List.setIfInBounds_toArray,List.set_cons_zero,List.set_cons_succ]
     refine wpAnyH_ready (rs:= [5]) (by kernel_rfl) (by simp) ?_
     refine AllReadyH.cons rfl (fun K hK=> ?_) AllReadyH.nil
     go_simp
     have hS5:(fun X=>X.cell? ⟨W,0,none⟩=some (.func (.func 81) #[] #[.pointer (some ⟨A,0,none⟩)])∧X.rangeAt wr.heap.size 0 [.int .i64 k',.string key',.string dst',.int .i64 n',.bool had',.int .i64 k1',.bool b1',.int .i64 n1',.string t1',.slice la1' l1'.length lc1',.slice oa1' o1'.length oc1',.bool has',.int .i64 k2',.bool b2',.int .i64 n2',.string t2',.slice la2' l2'.length lc2',.slice oa2' o2'.length oc2',.slice a' l'.length c']) (w4.alloc (.cells #[.int .i64 6,.bool false,.int .i64 0,.string ⟨#[]⟩,.slice none 0 0,.slice oa4 2 oc4] 27)):=⟨((alloc_below w4 _).cell (p:=⟨W,0,none⟩) (by have:=Hbr.out.size;simp at this;show W<w4.heap.size;omega)).trans hS4.1,blk_range (((Blk.new wr 30 #[.int .i64 k',.string key',.string dst',.int .i64 n',.bool had',.int .i64 k1',.bool b1',.int .i64 n1',.string t1',.slice la1' l1'.length lc1',.slice oa1' o1'.length oc1',.bool has',.int .i64 k2',.bool b2',.int .i64 n2',.string t2',.slice la2' l2'.length lc2',.slice oa2' o2'.length oc2',.slice a' l'.length c']).below Hbr.out (Blk.new _ _ _).lt).alloc _)⟩
     refine hK.out _ _ hS5 (fun hHeld=> ?_)
     clear hK K
     try simp only[Act.put,List.setIfInBounds_toArray,List.set_cons_zero,List.set_cons_succ]
     refine wpAnyH_ready (rs:= [6]) (by kernel_rfl) (by simp) ?_
     refine AllReadyH.cons rfl (fun K hK=> ?_) AllReadyH.nil
     have hxv5:=Hxv4.out.alloc (.cells #[.int .i64 6,.bool false,.int .i64 0,.string ⟨#[]⟩,.slice none 0 0,.slice oa4 2 oc4] 27)
     have hfe:=Hf4.out.later (alloc_below w4 (.cells #[.int .i64 6,.bool false,.int .i64 0,.string ⟨#[]⟩,.slice none 0 0,.slice oa4 2 oc4] 27))
     have hbe:=Hbr.out.alloc Hbr.out.size (.cells #[.int .i64 6,.bool false,.int .i64 0,.string ⟨#[]⟩,.slice none 0 0,.slice oa4 2 oc4] 27)
     refine step_append_D (d:=dV (mutV (Mut.mk k' key' dst' n' had' (.mk k1' b1' n1' t1' l1' o1') has' (.mk k2' b2' n2' t2' l2' o2') l'))) (V:=.slice aV (dL ((mutVs l).take q)).length cV) (by rfl) (.tmp 17) (.tmp 21) 24 (by rfl) Tryz.underlying24 Hj.out Hy0.out Hy1.out Hy2.out rfl (by omega) (by rfl) Hrow.out (by simp;omega) hbe (dV_cells _) hfe (by rfl) (reads_six w4 _ _ _ _ _ _) hLo.out.1 hLo.out.2 ?_
     intro V6 w6 hrow6 hg6 hat6
     rw[Htk.out]at hrow6
     have hne:(Value.slice aV (dL ((mutVs l).take q)).length cV).ownBlock≠some wr.heap.size:=fun e=>by have:=Hba.out _ e;omega
     have hneW:(Value.slice aV (dL ((mutVs l).take q)).length cV).ownBlock≠some W:=fun e=>by have:=Hba.out _ e;omega
     have hx6:=blk_app hxv5 hg6 Hrow.out (by omega)
     have hbx6:=blk_app ((Hbx.out.below Hbr.out Hbx.out.lt).alloc (.cells #[.int .i64 6,.bool false,.int .i64 0,.string ⟨#[]⟩,.slice none 0 0,.slice oa4 2 oc4] 27)) hg6 Hrow.out (by omega)
     have hw5:=((Hbw.out.trans (HA.out.mono hz)).trans (Hbr.out.mono (Nat.le_trans hz HA.out.size))).alloc (by have:=Hbr.out.size;simp at this;omega) (.cells #[.int .i64 6,.bool false,.int .i64 0,.string ⟨#[]⟩,.slice none 0 0,.slice oa4 2 oc4] 27)
     have hw6:=below_app hw5 hg6 Hrow.out (by omega) hw5.size
     have hr6:=(((Blk.new wr 30 #[.int .i64 k',.string key',.string dst',.int .i64 n',.bool had',.int .i64 k1',.bool b1',.int .i64 n1',.string t1',.slice la1' l1'.length lc1',.slice oa1' o1'.length oc1',.bool has',.int .i64 k2',.bool b2',.int .i64 n2',.string t2',.slice la2' l2'.length lc2',.slice oa2' o2'.length oc2',.slice a' l'.length c']).below Hbr.out (Blk.new _ _ _).lt).alloc (.cells #[.int .i64 6,.bool false,.int .i64 0,.string ⟨#[]⟩,.slice none 0 0,.slice oa4 2 oc4] 27)).grown hg6 (Ne.symm hne)
     have hWs:=hw5.size
     have hc6:=(World.cell?_of_block (a:=⟨W,0,none⟩) (hg6.block W (by omega) (Ne.symm hneW))).trans hS5.1
     have hS6:(fun X=>X.cell? ⟨W,0,none⟩=some (.func (.func 81) #[] #[.pointer (some ⟨A,0,none⟩)])∧X.rangeAt wr.heap.size 0 [.int .i64 k',.string key',.string dst',.int .i64 n',.bool had',.int .i64 k1',.bool b1',.int .i64 n1',.string t1',.slice la1' l1'.length lc1',.slice oa1' o1'.length oc1',.bool has',.int .i64 k2',.bool b2',.int .i64 n2',.string t2',.slice la2' l2'.length lc2',.slice oa2' o2'.length oc2',.slice a' l'.length c']) w6:=⟨hc6,blk_range hr6⟩
     refine hK.out _ _ hS6 (fun hHeld=> ?_)
     clear hK K hg6 hat6 hxv5 hfe hbe hw5 hS5
     try simp only[Act.put,List.setIfInBounds_toArray]
     refine wpAnyH_take (i:=7) (v:= ?_) rfl (by kernel_rfl) (by kernel_rfl) (by kernel_rfl) (fun _ _ _ h=>h) (Or.inl ⟨by kernel_rfl, ?_⟩) hHeld ?_
     rotate_left
     · intro X hSw
       skip
       first|(go_simp;done)|(go_simp;with_reducible rfl)
     try simp only[Act.put]
     refine wpAnyH_ready (rs:= [8]) (by kernel_rfl) (by simp) ?_
     refine AllReadyH.cons rfl (fun K hK=> ?_) AllReadyH.nil
     have e6:=hx6.cell 4
     have f6:=hx6.frozen 4
     have hg6v:=hx6.lt
     obtain⟨a6,c6,rfl⟩:=hrow6.slice
     go_simp
     refine hK.out _ _ ⟨(World.cell?_setCell_other _ _ _ _ (by intro e;injection e with e;omega)).trans hS6.1,blk_range (hr6.far (by simp;omega) _)⟩ (fun hHeld=> ?_)
     clear hK K
     try simp only[Act.put,List.setIfInBounds_toArray,List.set_cons_zero,List.set_cons_succ]
     refine wpAnyH_done (by kernel_rfl) ?_ _
     have HN:Hid (LQ w #[y0,.string key,y2,y3,.bool had,.int .i64 k,.bool b,.int .i64 n,.string t,.slice la lv'.length lc,.slice oa ov'.length oc,y11,y12,y13,y14,y15,y16,y17,.slice (some ⟨g,off,none⟩) l.length c] l (q+1) (w6.setCell ⟨w.heap.size+1,4,none⟩ (.slice a6 (dL ((mutVs l).take (q+1))).length c6)) (.slice a6 (dL ((mutVs l).take (q+1))).length c6)):=
      ⟨hw6.setCell (by simp) _,hbx6.far (by simp) _,hx6.set_ 4 _,hrow6.keep (by simp[World.setCell]) (fun i h1 _=>Below.heap_setCell _ _ _ _ (by simp;omega))⟩
     clear hx6 hbx6 hw6 hr6 hc6 hS6 hHeld hrow6 e6 f6 Hxv4 Hf4 Hbr Hxv Hbx Hrow
     go_wp2
     go_roundw
     case rel=>exact⟨q+1,by go_num,by omega,_,HN⟩
     case measure=>simp only[intOf];omega
    ·
     go_simp
     (with_reducible refine(HC'.out _ HA.out.drew).mono ?_)
     rintro e w4 ⟨hb4,oa4,oc4,rfl,hf4⟩
     have hbr:Below (wr.alloc (.cells #[.int .i64 k',.string key',.string dst',.int .i64 n',.bool had',.int .i64 k1',.bool b1',.int .i64 n1',.string t1',.slice la1' l1'.length lc1',.slice oa1' o1'.length oc1',.bool has',.int .i64 k2',.bool b2',.int .i64 n2',.string t2',.slice la2' l2'.length lc2',.slice oa2' o2'.length oc2',.slice a' l'.length c'] 30)).heap.size (wr.alloc (.cells #[.int .i64 k',.string key',.string dst',.int .i64 n',.bool had',.int .i64 k1',.bool b1',.int .i64 n1',.string t1',.slice la1' l1'.length lc1',.slice oa1' o1'.length oc1',.bool has',.int .i64 k2',.bool b2',.int .i64 n2',.string t2',.slice la2' l2'.length lc2',.slice oa2' o2'.length oc2',.slice a' l'.length c'] 30)) w4:=(Below.drew (Below.refl _ _)).trans hb4
     have hxv4:=Hxv.out.below hbr Hxv.out.lt
     have hS4:=And.intro ((hbr.cell (p:=⟨W,0,none⟩) (by simp;omega)).trans Hbo.out) (blk_range ((Blk.new wr 30 #[.int .i64 k',.string key',.string dst',.int .i64 n',.bool had',.int .i64 k1',.bool b1',.int .i64 n1',.string t1',.slice la1' l1'.length lc1',.slice oa1' o1'.length oc1',.bool has',.int .i64 k2',.bool b2',.int .i64 n2',.string t2',.slice la2' l2'.length lc2',.slice oa2' o2'.length oc2',.slice a' l'.length c']).below hbr (Blk.new _ _ _).lt))
     refine hK.out _ _ hS4 (fun hHeld=> ?_)
     have Hbr:=Lib.hid hbr
     have Hf4:=Lib.hid hf4
     have Hxv4:=Lib.hid hxv4
     have e4:=hxv4.cell 4
     clear hK K hb4 hbr hf4 hxv4
     try simp only[Act.put,List.setIfInBounds_toArray,List.set_cons_zero,List.set_cons_succ]
     refine wpAnyH_ready (rs:= [1,5]) (by kernel_rfl) (by simp) ?_
     refine AllReadyH.cons rfl (fun K hK=> ?_) (AllReadyH.cons rfl (fun K hK=> ?_) AllReadyH.nil)
     ·
      skip
      go_simp
      refine hK.out _ _ hS4 (fun hHeld=> ?_)
      clear hK K
      try simp only[Act.put,List.setIfInBounds_toArray,List.set_cons_zero,List.set_cons_succ]
      refine wpAnyH_ready (rs:= [5]) (by kernel_rfl) (by simp) ?_
      refine AllReadyH.cons rfl (fun K hK=> ?_) AllReadyH.nil
      go_simp
      have hS5:(fun X=>X.cell? ⟨W,0,none⟩=some (.func (.func 81) #[] #[.pointer (some ⟨A,0,none⟩)])∧X.rangeAt wr.heap.size 0 [.int .i64 k',.string key',.string dst',.int .i64 n',.bool had',.int .i64 k1',.bool b1',.int .i64 n1',.string t1',.slice la1' l1'.length lc1',.slice oa1' o1'.length oc1',.bool has',.int .i64 k2',.bool b2',.int .i64 n2',.string t2',.slice la2' l2'.length lc2',.slice oa2' o2'.length oc2',.slice a' l'.length c']) (w4.alloc (.cells #[.int .i64 6,.bool false,.int .i64 0,.string ⟨#[]⟩,.slice none 0 0,.slice oa4 2 oc4] 27)):=⟨((alloc_below w4 _).cell (p:=⟨W,0,none⟩) (by have:=Hbr.out.size;simp at this;show W<w4.heap.size;omega)).trans hS4.1,blk_range (((Blk.new wr 30 #[.int .i64 k',.string key',.string dst',.int .i64 n',.bool had',.int .i64 k1',.bool b1',.int .i64 n1',.string t1',.slice la1' l1'.length lc1',.slice oa1' o1'.length oc1',.bool has',.int .i64 k2',.bool b2',.int .i64 n2',.string t2',.slice la2' l2'.length lc2',.slice oa2' o2'.length oc2',.slice a' l'.length c']).below Hbr.out (Blk.new _ _ _).lt).alloc _)⟩
      refine hK.out _ _ hS5 (fun hHeld=> ?_)
      clear hK K
      try simp only[Act.put,List.setIfInBounds_toArray,List.set_cons_zero,List.set_cons_succ]
      refine wpAnyH_ready (rs:= [6]) (by kernel_rfl) (by simp) ?_
      refine AllReadyH.cons rfl (fun K hK=> ?_) AllReadyH.nil
      have hxv5:=Hxv4.out.alloc (.cells #[.int .i64 6,.bool false,.int .i64 0,.string ⟨#[]⟩,.slice none 0 0,.slice oa4 2 oc4] 27)
      have hfe:=Hf4.out.later (alloc_below w4 (.cells #[.int .i64 6,.bool false,.int .i64 0,.string ⟨#[]⟩,.slice none 0 0,.slice oa4 2 oc4] 27))
      have hbe:=Hbr.out.alloc Hbr.out.size (.cells #[.int .i64 6,.bool false,.int .i64 0,.string ⟨#[]⟩,.slice none 0 0,.slice oa4 2 oc4] 27)
      refine step_append_D (d:=dV (mutV (Mut.mk k' key' dst' n' had' (.mk k1' b1' n1' t1' l1' o1') has' (.mk k2' b2' n2' t2' l2' o2') l'))) (V:=.slice aV (dL ((mutVs l).take q)).length cV) (by rfl) (.tmp 17) (.tmp 21) 24 (by rfl) Tryz.underlying24 Hj.out Hy0.out Hy1.out Hy2.out rfl (by omega) (by rfl) Hrow.out (by simp;omega) hbe (dV_cells _) hfe (by rfl) (reads_six w4 _ _ _ _ _ _) hLo.out.1 hLo.out.2 ?_
      intro V6 w6 hrow6 hg6 hat6
      rw[Htk.out]at hrow6
      have hne:(Value.slice aV (dL ((mutVs l).take q)).length cV).ownBlock≠some wr.heap.size:=fun e=>by have:=Hba.out _ e;omega
      have hneW:(Value.slice aV (dL ((mutVs l).take q)).length cV).ownBlock≠some W:=fun e=>by have:=Hba.out _ e;omega
      have hx6:=blk_app hxv5 hg6 Hrow.out (by omega)
      have hbx6:=blk_app ((Hbx.out.below Hbr.out Hbx.out.lt).alloc (.cells #[.int .i64 6,.bool false,.int .i64 0,.string ⟨#[]⟩,.slice none 0 0,.slice oa4 2 oc4] 27)) hg6 Hrow.out (by omega)
      have hw5:=((Hbw.out.trans (HA.out.mono hz)).trans (Hbr.out.mono (Nat.le_trans hz HA.out.size))).alloc (by have:=Hbr.out.size;simp at this;omega) (.cells #[.int .i64 6,.bool false,.int .i64 0,.string ⟨#[]⟩,.slice none 0 0,.slice oa4 2 oc4] 27)
      have hw6:=below_app hw5 hg6 Hrow.out (by omega) hw5.size
      have hr6:=(((Blk.new wr 30 #[.int .i64 k',.string key',.string dst',.int .i64 n',.bool had',.int .i64 k1',.bool b1',.int .i64 n1',.string t1',.slice la1' l1'.length lc1',.slice oa1' o1'.length oc1',.bool has',.int .i64 k2',.bool b2',.int .i64 n2',.string t2',.slice la2' l2'.length lc2',.slice oa2' o2'.length oc2',.slice a' l'.length c']).below Hbr.out (Blk.new _ _ _).lt).alloc (.cells #[.int .i64 6,.bool false,.int .i64 0,.string ⟨#[]⟩,.slice none 0 0,.slice oa4 2 oc4] 27)).grown hg6 (Ne.symm hne)
      have hWs:=hw5.size
      have hc6:=(World.cell?_of_block (a:=⟨W,0,none⟩) (hg6.block W (by omega) (Ne.symm hneW))).trans hS5.1
      have hS6:(fun X=>X.cell? ⟨W,0,none⟩=some (.func (.func 81) #[] #[.pointer (some ⟨A,0,none⟩)])∧X.rangeAt wr.heap.size 0 [.int .i64 k',.string key',.string dst',.int .i64 n',.bool had',.int .i64 k1',.bool b1',.int .i64 n1',.string t1',.slice la1' l1'.length lc1',.slice oa1' o1'.length oc1',.bool has',.int .i64 k2',.bool b2',.int .i64 n2',.string t2',.slice la2' l2'.length lc2',.slice oa2' o2'.length oc2',.slice a' l'.length c']) w6:=⟨hc6,blk_range hr6⟩
      refine hK.out _ _ hS6 (fun hHeld=> ?_)
      clear hK K hg6 hat6 hxv5 hfe hbe hw5 hS5
      try simp only[Act.put,List.setIfInBounds_toArray]
      refine wpAnyH_take (i:=7) (v:= ?_) rfl (by kernel_rfl) (by kernel_rfl) (by kernel_rfl) (fun _ _ _ h=>h) (Or.inl ⟨by kernel_rfl, ?_⟩) hHeld ?_
      rotate_left
      · intro X hSw
        skip
        first|(go_simp;done)|(go_simp;with_reducible rfl)
      try simp only[Act.put]
      refine wpAnyH_ready (rs:= [8]) (by kernel_rfl) (by simp) ?_
      refine AllReadyH.cons rfl (fun K hK=> ?_) AllReadyH.nil
      have e6:=hx6.cell 4
      have f6:=hx6.frozen 4
      have hg6v:=hx6.lt
      obtain⟨a6,c6,rfl⟩:=hrow6.slice
      go_simp
      refine hK.out _ _ ⟨(World.cell?_setCell_other _ _ _ _ (by intro e;injection e with e;omega)).trans hS6.1,blk_range (hr6.far (by simp;omega) _)⟩ (fun hHeld=> ?_)
      clear hK K
      try simp only[Act.put,List.setIfInBounds_toArray,List.set_cons_zero,List.set_cons_succ]
      refine wpAnyH_done (by kernel_rfl) ?_ _
      have HN:Hid (LQ w #[y0,.string key,y2,y3,.bool had,.int .i64 k,.bool b,.int .i64 n,.string t,.slice la lv'.length lc,.slice oa ov'.length oc,y11,y12,y13,y14,y15,y16,y17,.slice (some ⟨g,off,none⟩) l.length c] l (q+1) (w6.setCell ⟨w.heap.size+1,4,none⟩ (.slice a6 (dL ((mutVs l).take (q+1))).length c6)) (.slice a6 (dL ((mutVs l).take (q+1))).length c6)):=
       ⟨hw6.setCell (by simp) _,hbx6.far (by simp) _,hx6.set_ 4 _,hrow6.keep (by simp[World.setCell]) (fun i h1 _=>Below.heap_setCell _ _ _ _ (by simp;omega))⟩
      clear hx6 hbx6 hw6 hr6 hc6 hS6 hHeld hrow6 e6 f6 Hxv4 Hf4 Hbr Hxv Hbx Hrow
      go_wp2
      go_roundw
      case rel=>exact⟨q+1,by go_num,by omega,_,HN⟩
      case measure=>simp only[intOf];omega
     ·
      go_simp
      have hS5:(fun X=>X.cell? ⟨W,0,none⟩=some (.func (.func 81) #[] #[.pointer (some ⟨A,0,none⟩)])∧X.rangeAt wr.heap.size 0 [.int .i64 k',.string key',.string dst',.int .i64 n',.bool had',.int .i64 k1',.bool b1',.int .i64 n1',.string t1',.slice la1' l1'.length lc1',.slice oa1' o1'.length oc1',.bool has',.int .i64 k2',.bool b2',.int .i64 n2',.string t2',.slice la2' l2'.length lc2',.slice oa2' o2'.length oc2',.slice a' l'.length c']) (w4.alloc (.cells #[.int .i64 6,.bool false,.int .i64 0,.string ⟨#[]⟩,.slice none 0 0,.slice oa4 2 oc4] 27)):=⟨((alloc_below w4 _).cell (p:=⟨W,0,none⟩) (by have:=Hbr.out.size;simp at this;show W<w4.heap.size;omega)).trans hS4.1,blk_range (((Blk.new wr 30 #[.int .i64 k',.string key',.string dst',.int .i64 n',.bool had',.int .i64 k1',.bool b1',.int .i64 n1',.string t1',.slice la1' l1'.length lc1',.slice oa1' o1'.length oc1',.bool has',.int .i64 k2',.bool b2',.int .i64 n2',.string t2',.slice la2' l2'.length lc2',.slice oa2' o2'.length oc2',.slice a' l'.length c']).below Hbr.out (Blk.new _ _ _).lt).alloc _)⟩
      refine hK.out _ _ hS5 (fun hHeld=> ?_)
      clear hK K
      try simp only[Act.put,List.setIfInBounds_toArray,List.set_cons_zero,List.set_cons_succ]
      refine wpAnyH_ready (rs:= [1]) (by kernel_rfl) (by simp) ?_
      refine AllReadyH.cons rfl (fun K hK=> ?_) AllReadyH.nil
      have e5:=(Hxv4.out.alloc (.cells #[.int .i64 6,.bool false,.int .i64 0,.string ⟨#[]⟩,.slice none 0 0,.slice oa4 2 oc4] 27)).cell 4
      go_simp
      refine hK.out _ _ hS5 (fun hHeld=> ?_)
      clear hK K
      try simp only[Act.put,List.setIfInBounds_toArray,List.set_cons_zero,List.set_cons_succ]
      refine wpAnyH_ready (rs:= [6]) (by kernel_rfl) (by simp) ?_
      refine AllReadyH.cons rfl (fun K hK=> ?_) AllReadyH.nil
      have hxv5:=Hxv4.out.alloc (.cells #[.int .i64 6,.bool false,.int .i64 0,.string ⟨#[]⟩,.slice none 0 0,.slice oa4 2 oc4] 27)
      have hfe:=Hf4.out.later (alloc_below w4 (.cells #[.int .i64 6,.bool false,.int .i64 0,.string ⟨#[]⟩,.slice none 0 0,.slice oa4 2 oc4] 27))
      have hbe:=Hbr.out.alloc Hbr.out.size (.cells #[.int .i64 6,.bool false,.int .i64 0,.string ⟨#[]⟩,.slice none 0 0,.slice oa4 2 oc4] 27)
      refine step_append_D (d:=dV (mutV (Mut.mk k' key' dst' n' had' (.mk k1' b1' n1' t1' l1' o1') has' (.mk k2' b2' n2' t2' l2' o2') l'))) (V:=.slice aV (dL ((mutVs l).take q)).length cV) (by rfl) (.tmp 17) (.tmp 21) 24 (by rfl) Tryz.underlying24 Hj.out Hy0.out Hy1.out Hy2.out rfl (by omega) (by rfl) Hrow.out (by simp;omega) hbe (dV_cells _) hfe (by rfl) (reads_six w4 _ _ _ _ _ _) hLo.out.1 hLo.out.2 ?_
      intro V6 w6 hrow6 hg6 hat6
      rw[Htk.out]at hrow6
      have hne:(Value.slice aV (dL ((mutVs l).take q)).length cV).ownBlock≠some wr.heap.size:=fun e=>by have:=Hba.out _ e;omega
      have hneW:(Value.slice aV (dL ((mutVs l).take q)).length cV).ownBlock≠some W:=fun e=>by have:=Hba.out _ e;omega
      have hx6:=blk_app hxv5 hg6 Hrow.out (by omega)
      have hbx6:=blk_app ((Hbx.out.below Hbr.out Hbx.out.lt).alloc (.cells #[.int .i64 6,.bool false,.int .i64 0,.string ⟨#[]⟩,.slice none 0 0,.slice oa4 2 oc4] 27)) hg6 Hrow.out (by omega)
      have hw5:=((Hbw.out.trans (HA.out.mono hz)).trans (Hbr.out.mono (Nat.le_trans hz HA.out.size))).alloc (by have:=Hbr.out.size;simp at this;omega) (.cells #[.int .i64 6,.bool false,.int .i64 0,.string ⟨#[]⟩,.slice none 0 0,.slice oa4 2 oc4] 27)
      have hw6:=below_app hw5 hg6 Hrow.out (by omega) hw5.size
      have hr6:=(((Blk.new wr 30 #[.int .i64 k',.string key',.string dst',.int .i64 n',.bool had',.int .i64 k1',.bool b1',.int .i64 n1',.string t1',.slice la1' l1'.length lc1',.slice oa1' o1'.length oc1',.bool has',.int .i64 k2',.bool b2',.int .i64 n2',.string t2',.slice la2' l2'.length lc2',.slice oa2' o2'.length oc2',.slice a' l'.length c']).below Hbr.out (Blk.new _ _ _).lt).alloc (.cells #[.int .i64 6,.bool false,.int .i64 0,.string ⟨#[]⟩,.slice none 0 0,.slice oa4 2 oc4] 27)).grown hg6 (Ne.symm hne)
      have hWs:=hw5.size
      have hc6:=(World.cell?_of_block (a:=⟨W,0,none⟩) (hg6.block W (by omega) (Ne.symm hneW))).trans hS5.1
      have hS6:(fun X=>X.cell? ⟨W,0,none⟩=some (.func (.func 81) #[] #[.pointer (some ⟨A,0,none⟩)])∧X.rangeAt wr.heap.size 0 [.int .i64 k',.string key',.string dst',.int .i64 n',.bool had',.int .i64 k1',.bool b1',.int .i64 n1',.string t1',.slice la1' l1'.length lc1',.slice oa1' o1'.length oc1',.bool has',.int .i64 k2',.bool b2',.int .i64 n2',.string t2',.slice la2' l2'.length lc2',.slice oa2' o2'.length oc2',.slice a' l'.length c']) w6:=⟨hc6,blk_range hr6⟩
      refine hK.out _ _ hS6 (fun hHeld=> ?_)
      clear hK K hg6 hat6 hxv5 hfe hbe hw5 hS5
      try simp only[Act.put,List.setIfInBounds_toArray]
      refine wpAnyH_take (i:=7) (v:= ?_) rfl (by kernel_rfl) (by kernel_rfl) (by kernel_rfl) (fun _ _ _ h=>h) (Or.inl ⟨by kernel_rfl, ?_⟩) hHeld ?_
      rotate_left
      · intro X hSw
        skip
        first|(go_simp;done)|(go_simp;with_reducible rfl)
      try simp only[Act.put]
      refine wpAnyH_ready (rs:= [8]) (by kernel_rfl) (by simp) ?_
      refine AllReadyH.cons rfl (fun K hK=> ?_) AllReadyH.nil
      have e6:=hx6.cell 4
      have f6:=hx6.frozen 4
      have hg6v:=hx6.lt
      obtain⟨a6,c6,rfl⟩:=hrow6.slice
      go_simp
      refine hK.out _ _ ⟨(World.cell?_setCell_other _ _ _ _ (by intro e;injection e with e;omega)).trans hS6.1,blk_range (hr6.far (by simp;omega) _)⟩ (fun hHeld=> ?_)
      clear hK K
      try simp only[Act.put,List.setIfInBounds_toArray,List.set_cons_zero,List.set_cons_succ]
      refine wpAnyH_done (by kernel_rfl) ?_ _
      have HN:Hid (LQ w #[y0,.string key,y2,y3,.bool had,.int .i64 k,.bool b,.int .i64 n,.string t,.slice la lv'.length lc,.slice oa ov'.length oc,y11,y12,y13,y14,y15,y16,y17,.slice (some ⟨g,off,none⟩) l.length c] l (q+1) (w6.setCell ⟨w.heap.size+1,4,none⟩ (.slice a6 (dL ((mutVs l).take (q+1))).length c6)) (.slice a6 (dL ((mutVs l).take (q+1))).length c6)):=
       ⟨hw6.setCell (by simp) _,hbx6.far (by simp) _,hx6.set_ 4 _,hrow6.keep (by simp[World.setCell]) (fun i h1 _=>Below.heap_setCell _ _ _ _ (by simp;omega))⟩
      clear hx6 hbx6 hw6 hr6 hc6 hS6 hHeld hrow6 e6 f6 Hxv4 Hf4 Hbr Hxv Hbx Hrow
      go_wp2
      go_roundw
      case rel=>exact⟨q+1,by go_num,by omega,_,HN⟩
      case measure=>simp only[intOf];omega
  · obtain rfl:q=l.length:=by omega
    have hln:(dL ((mutVs l).take l.length)).length=l.length:=by rw[dL_len,List.length_take,mutVs_len,Nat.min_self]
    have hbw:=hI.out.below
    have hz:=hbw.size
    have hbx:=hI.out.box
    have hxv:=hI.out.var
    have hgb2:=hbx.lt
    have hgv:=hxv.lt
    have hrow:=hI.out.row.close
    obtain⟨aV,cV,rfl⟩:=hI.out.row.slice_n hln
    obtain⟨a',c',e',_,hf,_⟩:=hrow
    rw[hln]at e' hf
    obtain⟨rfl,rfl⟩:aV=a'∧cV=c':=by simpa using e'
    have hfl:Fresh (w.heap.size+2) wr (dV (lv (mutVs l))) [.int .i64 5,.bool false,.int .i64 0,.string ⟨#[]⟩,.slice aV l.length cV,.slice none 0 0]:=by
     refine fresh_lv ?_
     rwa [show(mutVs l).take l.length=mutVs l from by rw[←mutVs_len l,List.take_length]]at hf
    have hfp:FreshA w.heap.size (wr.alloc (.cells #[.string kDo,.int .i64 5,.bool false,.int .i64 0,.string ⟨#[]⟩,.slice aV l.length cV,.slice none 0 0] Tpair)) (dO [(kDo,lv (mutVs l))]) #[.string kDo,.int .i64 5,.bool false,.int .i64 0,.string ⟨#[]⟩,.slice aV l.length cV,.slice none 0 0].toList:=
     FreshA.one ((dP_fresh (key:=kDo) (hfl.keep (b':=w.heap.size) (by omega) (Nat.le_refl _) fun _ _ _=>rfl)).later (alloc_below _ _))
    obtain⟨x0,x1,x2,x3,x4,x5⟩:=vcell hxv
    have d1:=hbx.cell 1
    obtain⟨B,hB⟩: ∃B,key.toList.isEmpty=B:=⟨_,rfl⟩
    have hO:=HO.out
    rw[hB]at hO
    have hw7:=hbw.alloc hz (.cells #[.string kDo,.int .i64 5,.bool false,.int .i64 0,.string ⟨#[]⟩,.slice aV l.length cV,.slice none 0 0] Tpair)
    have hbx7:=hbx.alloc (.cells #[.string kDo,.int .i64 5,.bool false,.int .i64 0,.string ⟨#[]⟩,.slice aV l.length cV,.slice none 0 0] Tpair)
    have hd7:=hbx7.cell 1
    have Hbw:=Lib.hid hbw
    have Hbx:=Lib.hid hbx
    have Hxv:=Lib.hid hxv
    have Hfl:=Lib.hid hfl
    have Hfp:=Lib.hid hfp
    have Hw7:=Lib.hid hw7
    have Hbx7:=Lib.hid hbx7
    clear hbw hbx hxv hfl hfp hw7 hbx7
    clear hI hf e' hln HO
    cases B with
    |true=>
     simp only[if_true]at hO
     subst hO
     go_wp2
     go_ret
     exact⟨Hw7.out,_,rfl,pairs_lit hz rfl Hfp.out⟩
    |false=>
     simp only[Bool.false_eq_true,if_false]at hO
     subst hO
     have hrow7:RowX (fun i=>w.heap.size≤i) w.heap.size Tpair 7 (wr.alloc (.cells #[.string kDo,.int .i64 5,.bool false,.int .i64 0,.string ⟨#[]⟩,.slice aV l.length cV,.slice none 0 0] Tpair)) [dP (kDo,lv (mutVs l))] (.slice (some ⟨wr.heap.size,0,none⟩) 1 1):=
      RowX.lit (cs:= #[.string kDo,.int .i64 5,.bool false,.int .i64 0,.string ⟨#[]⟩,.slice aV l.length cV,.slice none 0 0]) hz (dP_cells _) (((HoldsIn.of_fresh (dP_fresh (key:=kDo) Hfl.out)).mono (T:=fun i=>w.heap.size≤i∧i≠wr.heap.size) fun i hi hs=>by
       have hs':w.heap.size+2≤i:=hs
       exact⟨by omega,by omega⟩).below (alloc_below _ _))
     have hCg:=fun W' (hW':Below w.heap.size w W')=>guard_calls y0 key y2 y3 had k b n t lv' ov' la oa lc oc y11 y12 y13 y14 y15 y16 y17 (.slice a l.length c) W' (HoldsV.more hW'.size _ _ (HV.out.below hW')) hbV
     obtain⟨p0,hp,hp0,hp1,hp2⟩:=info_parts pair_info
     have hgl:=guard_len key had (.mk k b n t lv' ov')
     have hsz7:(wr.alloc (.cells #[.string kDo,.int .i64 5,.bool false,.int .i64 0,.string ⟨#[]⟩,.slice aV l.length cV,.slice none 0 0] Tpair)).heap.size=wr.heap.size+1:=by simp
     obtain⟨G,hG⟩: ∃G,guardO key had (.mk k b n t lv' ov')=G:=⟨_,rfl⟩
     rw[hG]at hgl
     simp only[hG]at hCg
     have hoo:dO [(kDo,lv (mutVs l)),(kIf,ov G)]= [dP (kDo,lv (mutVs l))]++ [dP (kIf,ov G)]:=by simp[dO]
     have Hrow7:=Lib.hid hrow7
     have HCg:=Lib.hid hCg
     have Hp:=Lib.hid hp
     have Hp0:=Lib.hid hp0
     have Hp1:=Lib.hid hp1
     have Hp2:=Lib.hid hp2
     have Hgl:=Lib.hid hgl
     have Hsz7:=Lib.hid hsz7
     have Hoo:=Lib.hid hoo
     have HG:=Lib.hid hG
     clear hrow7 hCg hp hp0 hp1 hp2 hgl hsz7 hoo hG
     clear Hfl Hfp HV Hl Ih Hbox
     go_upto_region 9 with(fail)
     iterate 5 go_step
     refine wp_load_blk 30 (.tmp 2) rfl w.heap.size _ Hbx7.out rfl _ Tryz.underlying30 rfl (by kernel_rfl) ?_
     go_wp2_with (fail)
     with_reducible refine(HCg.out _ Hw7.out).mono ?_
     rintro e w8 ⟨hb8,V,rfl,hP⟩
     have Hb8:=Lib.hid hb8
     have HP:=Lib.hid hP
     have Hrow8:=Lib.hid (Hrow7.out.below hb8)
     clear hb8 hP
     go_wp2_with (fail)
     with_reducible refine(mobject_calls _ G V _ Hb8.out.size HP.out (by have:=Hgl.out;omega)).mono ?_
     rintro e w9 ⟨hb9,oa9,oc9,rfl,hf9⟩
     have hw9:=(Hw7.out.trans (Hb8.out.mono Hw7.out.size)).trans (hb9.mono (Hw7.out.trans (Hb8.out.mono Hw7.out.size)).size)
     have hX:HoldsIn (fun i=>w.heap.size≤i∧(Value.slice (some ⟨wr.heap.size,0,none⟩) 1 1).ownBlock≠some i) (w9.alloc (.cells #[.string kIf,.int .i64 6,.bool false,.int .i64 0,.string ⟨#[]⟩,.slice none 0 0,.slice oa9 G.length oc9] Tpair)) (dP (kIf,ov G)) #[.string kIf,.int .i64 6,.bool false,.int .i64 0,.string ⟨#[]⟩,.slice none 0 0,.slice oa9 G.length oc9].toList:=
      (HoldsIn.of_fresh ((dP_fresh (key:=kIf) hf9).later (alloc_below w9 (.cells #[.string kIf,.int .i64 6,.bool false,.int .i64 0,.string ⟨#[]⟩,.slice none 0 0,.slice oa9 G.length oc9] Tpair)))).mono fun i _ hi=>by
        have hi':(wr.alloc (.cells #[.string kDo,.int .i64 5,.bool false,.int .i64 0,.string ⟨#[]⟩,.slice aV l.length cV,.slice none 0 0] Tpair)).heap.size≤i:=hi
        rw[Hsz7.out]at hi'
        exact⟨by omega,fun e=>absurd (Option.some.inj (show some wr.heap.size=some i from e)) (by omega)⟩
     have Hrow9:=Lib.hid ((Hrow8.out.below hb9).below (alloc_below w9 (.cells #[.string kIf,.int .i64 6,.bool false,.int .i64 0,.string ⟨#[]⟩,.slice none 0 0,.slice oa9 G.length oc9] Tpair)))
     have HX:=Lib.hid hX
     have Hw9:=Lib.hid hw9
     have Hf9:=Lib.hid hf9
     have Hb9:=Lib.hid hb9
     clear hX hw9 hf9 hb9
     go_wp2_with (at_builtin;apply Shut.out)
     unfold Shut
     refine wpList_append_X (V:=.slice (some ⟨wr.heap.size,0,none⟩) 1 1) rfl (.tmp 31) (.tmp 36) 91 rfl Tryz.underlying91 Hp.out Hp0.out Hp1.out Hp2.out rfl (by omega) rfl Hrow9.out (Nat.le_trans Hw9.out.size (by simp)) (dP_cells _) HX.out rfl (reads_pair _ _ _ _ _ _ _ _) (by simp[maxLen]) (by simp) ?_
     intro V6 w6 hrow6 hg6 hat6
     rw[←Hoo.out]at hrow6
     have hw6:=below_appX (Hw9.out.alloc Hw9.out.size (.cells #[.string kIf,.int .i64 6,.bool false,.int .i64 0,.string ⟨#[]⟩,.slice none 0 0,.slice oa9 G.length oc9] Tpair)) hg6 Hrow9.out (Nat.le_refl _) (Nat.le_trans Hw9.out.size (by simp))
     have Hrow6:=Lib.hid hrow6
     have Hw6:=Lib.hid hw6
     clear hrow6 hw6
     go_wp2
     go_ret
     have hpr:=pairs_row Hrow6.out (by simp)
     rw[←HG.out]at hpr
     exact⟨Hw6.out,V6,rfl,hpr⟩
end Go.Proofs.YtkkbplakgldlpaaGreatDoor
