/- Parts, joined: parse.reader.list, where 'value' keeps its promise at a smaller fuel. Condition: a text of at most 10^8 bytes. -/
import Derived.Test.YtkkbplakgldlpaaGreatDoorProg
import Derived.Deep.RegionLaw
import Derived.Test.YtkkbplakgldlpaaGreatDoorKMu21
namespace Go.Proofs.YtkkbplakgldlpaaGreatDoor
open Go Go.RowKit
structure LRd (w wr:World) (R g:Nat) (s:ByteArray) (d:Int) (RES:Rd Val) (f n j:Nat) (acc:List Val) (V:Value):Prop where
 all:RdL w wr R g s j #[.int .i64 5,.bool false,.int .i64 0,.string ⟨#[]⟩,V,.slice none 0 0]
 row:RowD (w.heap.size+2) 27 6 wr (dL acc) V
 is:itemsF n s.data.toList j d acc=RES
 fuel:4*(s.size - j)+2≤n
 lt:n<f
 few:acc.length≤j
set_option maxRecDepth 100000 in
set_option maxHeartbeats 8000000 in
theorem rdlist_calls (w0:World) (R g:Nat) (s:ByteArray) (f:Nat) (ih: ∀f',f'<f→ValC w0 R g s f') (w:World) (k:Nat) (d:Int) (h:RdI w0 w R g s k) (hs:s.size≤100000000) (hk:k<s.size) (hf:4*(s.size - k)≤f) (hd0:0≤d) (hd:d≤64):
 Calls Tryz.prog 138 #[.pointer (some ⟨R,0,none⟩),.int .i64 d] w (RVPost R g s w (listF f s.data.toList k d)):=by
 obtain⟨j0,hj,hy0,hy1,hy2⟩:=info_parts val_info
 have hR:R<w.heap.size:=Blk.lt h.rd
 obtain⟨f,rfl⟩: ∃n,f=n+1:=⟨f - 1,by omega⟩
 have hP:=past_size (s:=s) (k:=k+1) (by omega)
 have hP1:=past_ge s.data.toList (k+1)
 have hI0:RdL w (((w.setCell ⟨R,1,none⟩ (.int .i64 ((k+1:Nat):Int))).alloc (.cells zero6 27)).alloc (.cells #[.int .i64 5,.bool false,.int .i64 0,.string ⟨#[]⟩,.slice none 0 0,.slice none 0 0] 27)) R g s (k+1) #[.int .i64 5,.bool false,.int .i64 0,.string ⟨#[]⟩,.slice none 0 0,.slice none 0 0]:=by
  refine⟨(((RdTo.refl h.rd).set _).alloc _).alloc _, ?_, ?_⟩
  · have:=(Blk.new (w.setCell ⟨R,1,none⟩ (.int .i64 ((k+1:Nat):Int))) 27 zero6).alloc (.cells #[.int .i64 5,.bool false,.int .i64 0,.string ⟨#[]⟩,.slice none 0 0,.slice none 0 0] 27)
    simpa[World.setCell]using this
  · have:=Blk.new ((w.setCell ⟨R,1,none⟩ (.int .i64 ((k+1:Nat):Int))).alloc (.cells zero6 27)) 27 #[.int .i64 5,.bool false,.int .i64 0,.string ⟨#[]⟩,.slice none 0 0,.slice none 0 0]
    simpa[World.setCell]using this
 obtain⟨c0,c1,_,f1,_⟩:=h.rd.cells
 have ek:((k:Int)+1)=((k+1:Nat):Int):=by omega
 obtain⟨RES,hRES⟩: ∃r,listF (f+1) s.data.toList k d=r:=⟨_,rfl⟩
 rw[hRES]
 unfold listF at hRES
 cases hB:decide (s.data.toList[past s.data.toList (k+1)]? =some 93)with
 |true=>
  have hc:=hB
  rw[decide_eq_true_iff]at hc
  rw[if_pos hc]at hRES
  subst hRES
  clear hc
  have Hj:=Lib.hid hj
  have Hy0:=Lib.hid hy0
  have Hy1:=Lib.hid hy1
  have Hy2:=Lib.hid hy2
  have Ih:=Lib.hid ih
  have H:=Lib.hid h
  have HI0:=Lib.hid hI0
  have Ek:=Lib.hid ek
  have HB:=Lib.hid hB
  clear hj hy0 hy1 hy2 ih h hI0 ek hB
  go_enter Tryz.func138,Tryz.ntmps138
  go_wp2
  go_step3
  go_wp2_with (fail)
  rw[Ek.out]
  generalize ((w.setCell ⟨R,1,none⟩ (.int .i64 ((k+1:Nat):Int))).alloc (.cells zero6 27)).alloc (.cells #[.int .i64 5,.bool false,.int .i64 0,.string ⟨#[]⟩,.slice none 0 0,.slice none 0 0] 27)=w1 at HI0 ⊢
  have hC:=comes_at R g s (k+1) 93 93 (by decide) w1 (by omega) (by omega) HI0.out.went.2 HB.out
  rw[if_pos rfl]at hC
  with_reducible refine hC.mono ?_
  rintro e w2 ⟨rfl,h2⟩
  have hI2:=HI0.out.to_ hR h2
  obtain⟨y0,y1,y2,y3,y4,y5⟩:=vcell hI2.var
  obtain⟨r0,r1,r2,r3,r4,r5⟩:=vcell hI2.res
  have fz:=hI2.res.frozen
  have HI2:=Lib.hid hI2
  clear hI2
  clear hC c0 c1 f1 h2 HI0
  dsimp only
  repeat go_step
  obtain⟨hxf,hto⟩:=HI2.out.leave hR (.int .i64 5) (.bool false) (.int .i64 0) (.string ⟨#[]⟩) (.slice none 0 0) (.slice none 0 0)
  rw[Exit.noGoto_ret]
  exact bodyPost_ret (results_cell6 rfl rfl hxf) rfl ⟨⟨_,rfl,fresh_leafs 5 false 0 _⟩,hto⟩
 |false=>
  have hc:=hB
  rw[decide_eq_false_iff_not]at hc
  rw[if_neg hc]at hRES
  clear hc
  have Hj:=Lib.hid hj
  have Hy0:=Lib.hid hy0
  have Hy1:=Lib.hid hy1
  have Hy2:=Lib.hid hy2
  have Ih:=Lib.hid ih
  have H:=Lib.hid h
  have HI0:=Lib.hid hI0
  have Ek:=Lib.hid ek
  have HB:=Lib.hid hB
  have HRES:=Lib.hid hRES
  clear hj hy0 hy1 hy2 ih h hI0 ek hB hRES
  go_enter Tryz.func138,Tryz.ntmps138
  go_wp2
  go_step3
  go_wp2_with (fail)
  rw[Ek.out]
  generalize ((w.setCell ⟨R,1,none⟩ (.int .i64 ((k+1:Nat):Int))).alloc (.cells zero6 27)).alloc (.cells #[.int .i64 5,.bool false,.int .i64 0,.string ⟨#[]⟩,.slice none 0 0,.slice none 0 0] 27)=w1 at HI0 ⊢
  have hC:=comes_at R g s (k+1) 93 93 (by decide) w1 (by omega) (by omega) HI0.out.went.2 HB.out
  rw[if_neg (by decide)]at hC
  with_reducible refine hC.mono ?_
  rintro e w2 ⟨rfl,h2⟩
  have hI2:=HI0.out.to_ hR h2
  have HL0:Hid (LRd w w2 R g s d RES (f+1) f (past s.data.toList (k+1)) [] (.slice none 0 0)):=⟨hI2,by simpa[dL]using RowD.nil _ _ _ _,HRES.out,by omega,by omega,by simp⟩
  clear hC c0 c1 f1 h2 HI0 HRES hI2 HB
  generalize past s.data.toList (k+1)=p1 at HL0 hP hP1
  go_wp2
  go_step3
  go_wp2
  go_loopg [] f (fun n wr=> ∃m j acc V,m=n∧j≤s.size∧Hid (LRd w wr R g s d RES (f+1) n j acc V))
  case atStart=>exact⟨f,p1, [],_,rfl,hP,HL0⟩
  case round=>
   obtain⟨n,j,acc,V,rfl,hj,hh⟩:=hrel
   clear HL0 hP hP1 p1
   have hn2:=hh.out.fuel
   have hnf:=hh.out.lt
   have hfw:=hh.out.few
   obtain⟨n,rfl⟩: ∃m,n=m+1:=⟨n - 1,by omega⟩
   have hI:=hh.out.all
   have hrow:=hh.out.row
   have his:=hh.out.is
   obtain⟨aV,cV,rfl⟩:=hrow.slice
   have rdi:=H.out.to hI.went
   have hC: ∀W,Below wr.heap.size wr W→Calls Tryz.prog 91 #[.pointer (some ⟨R,0,none⟩),.int .i64 (d+1)] W (RVPost R g s W (valueF n s.data.toList j (d+1))):=fun W hW=>Ih.out n (by omega) W j (d+1) (rdi.later hW) hj (by omega) (by omega) (by omega)
   have hw:=(within_all n).1 s.data.toList j (d+1) (by rw[size_toList];exact hj)
   unfold itemsF at his
   have ewr:IntKind.i64.wrap (d+1)=d+1:=IntWalk.i64_in _ (by omega)
   have y4:=hI.var.cell 4
   have hgv:=hI.var.lt
   have dl:(dL acc).length=acc.length:=dL_len _
   cases hr:valueF n s.data.toList j (d+1)with
   |bad c q=>
    rw[hr]at hC his
    simp only at his
    subst his
    have Hv0:=Lib.hid hI.var.drew
    have HRow:=Lib.hid hrow
    have HRw:=Lib.hid (show R<wr.heap.size by have:=hI.went.1.size;omega)
    have HC:=Lib.hid hC
    have HI:=Lib.hid hI
    have Dl:=Lib.hid dl
    clear hC hI dl
    clear hw hr hh rdi y4 hrow
    go_upto_region 5 with(fail)
    refine wp_region_held_drew (S:=fun _=>True) (by kernel_rfl) trivial (fun hHeld=> ?_)
    refine wpAnyH_take (i:=0) (v:= ?_) rfl (by kernel_rfl) (by kernel_rfl) (by kernel_rfl) (fun _ _ _ h=>h) (Or.inl ⟨by kernel_rfl, ?_⟩) hHeld ?_
    rotate_left
    · intro X hSw
      first|(go_simp;done)|(go_simp;with_reducible rfl)
    try simp only[Act.put,List.setIfInBounds_toArray]
    refine wpAnyH_take (i:=2) (v:= ?_) rfl (by kernel_rfl) (by kernel_rfl) (by kernel_rfl) (fun _ _ _ h=>h) (Or.inl ⟨by kernel_rfl, ?_⟩) hHeld ?_
    rotate_left
    · intro X hSw
      first|(go_simp;done)|(go_simp;with_reducible rfl)
    try simp only[Act.put]
    refine wpAnyH_take (i:=3) (v:= ?_) rfl (by kernel_rfl) (by kernel_rfl) (by kernel_rfl) (fun _ _ _ h=>h) (Or.inl ⟨by kernel_rfl, ?_⟩) hHeld ?_
    rotate_left
    · intro X hSw
      first|(go_simp;done)|(go_simp;with_reducible rfl)
    try simp only[Act.put]
    refine wpAnyH_take (i:=4) (v:= ?_) rfl (by kernel_rfl) (by kernel_rfl) (by kernel_rfl) (fun _ _ _ h=>h) (Or.inl ⟨by kernel_rfl, ?_⟩) hHeld ?_
    rotate_left
    · intro X hSw
      first|(go_simp;done)|(go_simp;with_reducible rfl)
    try simp only[Act.put]
    refine wpAnyH_ready (rs:= [1,5]) (by kernel_rfl) (by simp) ?_
    refine AllReadyH.cons rfl (fun K hK=> ?_) (AllReadyH.cons rfl (fun K hK=> ?_) AllReadyH.nil)
    · skip
      have e4:=Hv0.out.cell 4
      go_simp
      refine hK.out _ _ trivial (fun hHeld=> ?_)
      clear hK K e4
      try simp only[Act.put,List.setIfInBounds_toArray,List.set_cons_zero,List.set_cons_succ]
      refine wpAnyH_ready (rs:= [5]) (by kernel_rfl) (by simp) ?_
      refine AllReadyH.cons rfl (fun K hK=> ?_) AllReadyH.nil
      go_simp
      with_reducible refine(HC.out _ (Below.drew (Below.refl _ _))).mono ?_
      rintro e w4 ⟨rfl,hg⟩
      exact⟨rfl,rfl,grownBy_trans HI.out.went.1 ⟨hg.os,hg.tape,hg.output,hg.size,hg.block⟩⟩
    · skip
      go_simp
      with_reducible refine(HC.out _ (Below.drew (Below.refl _ _))).mono ?_
      rintro e w4 ⟨rfl,hg⟩
      exact⟨rfl,rfl,grownBy_trans HI.out.went.1 ⟨hg.os,hg.tape,hg.output,hg.size,hg.block⟩⟩
   |ok v q=>
    rw[hr]at hC his hw
    simp only at his
    obtain⟨hw1,hw2⟩:=hw
    rw[size_toList]at hw2
    obtain⟨k',b',n',t',l',o'⟩:=v
    have htk:dL acc++ [dV (.mk k' b' n' t' l' o')]=dL (acc++ [.mk k' b' n' t' l' o']):=by rw[dL_map,dL_map];simp
    have HLo:Hid ((dL acc).length+1≤maxLen∧((dL acc).length+1)*88≤140737488355328):=by rw[dl];exact⟨by simp only[maxLen];omega,by omega⟩
    have Hv0:=Lib.hid hI.var.drew
    have HRow:=Lib.hid hrow
    have HRw:=Lib.hid (show R<wr.heap.size by have:=hI.went.1.size;omega)
    have HC:=Lib.hid hC
    have HI:=Lib.hid hI
    have Dl:=Lib.hid dl
    have Htk:=Lib.hid htk
    have His:=Lib.hid his
    clear hC hI dl htk his
    clear hr hh rdi y4 hrow
    go_upto_region 5 with(fail)
    go_cut [] (fun wx=>Hid (∃V,RdL w wx R g s q #[.int .i64 5,.bool false,.int .i64 0,.string ⟨#[]⟩,V,.slice none 0 0]∧RowD (w.heap.size+2) 27 6 wx (dL (acc++ [.mk k' b' n' t' l' o'])) V))
    case first=>
     refine wp_region_held_drew (S:=fun _=>True) (by kernel_rfl) trivial (fun hHeld=> ?_)
     refine wpAnyH_take (i:=0) (v:= ?_) rfl (by kernel_rfl) (by kernel_rfl) (by kernel_rfl) (fun _ _ _ h=>h) (Or.inl ⟨by kernel_rfl, ?_⟩) hHeld ?_
     rotate_left
     · intro X hSw
       first|(go_simp;done)|(go_simp;with_reducible rfl)
     try simp only[Act.put,List.setIfInBounds_toArray]
     refine wpAnyH_take (i:=2) (v:= ?_) rfl (by kernel_rfl) (by kernel_rfl) (by kernel_rfl) (fun _ _ _ h=>h) (Or.inl ⟨by kernel_rfl, ?_⟩) hHeld ?_
     rotate_left
     · intro X hSw
       first|(go_simp;done)|(go_simp;with_reducible rfl)
     try simp only[Act.put]
     refine wpAnyH_take (i:=3) (v:= ?_) rfl (by kernel_rfl) (by kernel_rfl) (by kernel_rfl) (fun _ _ _ h=>h) (Or.inl ⟨by kernel_rfl, ?_⟩) hHeld ?_
     rotate_left
     · intro X hSw
       first|(go_simp;done)|(go_simp;with_reducible rfl)
     try simp only[Act.put]
     refine wpAnyH_take (i:=4) (v:= ?_) rfl (by kernel_rfl) (by kernel_rfl) (by kernel_rfl) (fun _ _ _ h=>h) (Or.inl ⟨by kernel_rfl, ?_⟩) hHeld ?_
     rotate_left
     · intro X hSw
       first|(go_simp;done)|(go_simp;with_reducible rfl)
     try simp only[Act.put]
     refine wpAnyH_ready (rs:= [1,5]) (by kernel_rfl) (by simp) ?_
     refine AllReadyH.cons rfl (fun K hK=> ?_) (AllReadyH.cons rfl (fun K hK=> ?_) AllReadyH.nil)
     · skip
       have e4:=Hv0.out.cell 4
       go_simp
       refine hK.out _ _ trivial (fun hHeld=> ?_)
       clear hK K e4
       try simp only[Act.put,List.setIfInBounds_toArray,List.set_cons_zero,List.set_cons_succ]
       refine wpAnyH_ready (rs:= [5]) (by kernel_rfl) (by simp) ?_
       refine AllReadyH.cons rfl (fun K hK=> ?_) AllReadyH.nil
       go_simp
       with_reducible refine(HC.out _ (Below.drew (Below.refl _ _))).mono ?_
       rintro e w4 ⟨⟨cs,rfl,hf4⟩,h4⟩
       obtain⟨la4,lc4,oa4,oc4,rfl⟩:=six_now hf4
       obtain⟨wm,hs1,hs2,hs3⟩:=grownBy_split HRw.out h4.undrew.1
       have hI4:=HI.out.to_ hR h4.undrew
       have hrow4:=HRow.out.keep (by rw[hs1];exact Nat.le_refl _) (fun i h1 _=>hs2 i (by omega))
       have Hf4:Hid (Fresh wm.heap.size w4 (dV (.mk k' b' n' t' l' o')) [.int .i64 k',.bool b',.int .i64 n',.string t',.slice la4 l'.length lc4,.slice oa4 o'.length oc4]):=by rw[hs1];exact hf4
       have Hv4:=Lib.hid hI4.var
       have Hs3:=Lib.hid hs3
       have HI4:=Lib.hid hI4
       have Hrow4:=Lib.hid hrow4
       clear hs3 hI4 hrow4
       clear hf4 h4 hs2
       refine hK.out _ _ trivial (fun hHeld=> ?_)
       clear hK K
       try simp only[Act.put,List.setIfInBounds_toArray,List.set_cons_zero,List.set_cons_succ]
       refine wpAnyH_ready (rs:= [6]) (by kernel_rfl) (by simp) ?_
       refine AllReadyH.cons rfl (fun K hK=> ?_) AllReadyH.nil
       go_simp
       have Hv5:=Lib.hid (Hv4.out.alloc (.cells #[.int .i64 k',.bool b',.int .i64 n',.string t',.slice la4 l'.length lc4,.slice oa4 o'.length oc4] 27))
       refine hK.out _ _ trivial (fun hHeld=> ?_)
       clear hK K
       try simp only[Act.put,List.setIfInBounds_toArray,List.set_cons_zero,List.set_cons_succ]
       refine wpAnyH_ready (rs:= [7]) (by kernel_rfl) (by simp) ?_
       refine AllReadyH.cons rfl (fun K hK=> ?_) AllReadyH.nil
       have hbe:=Hs3.out.alloc Hs3.out.size (.cells #[.int .i64 k',.bool b',.int .i64 n',.string t',.slice la4 l'.length lc4,.slice oa4 o'.length oc4] 27)
       have hfe:=Hf4.out.later (alloc_below w4 (.cells #[.int .i64 k',.bool b',.int .i64 n',.string t',.slice la4 l'.length lc4,.slice oa4 o'.length oc4] 27))
       refine step_append_D (d:=dV (.mk k' b' n' t' l' o')) (V:=.slice aV (dL acc).length cV) (by rfl) (.tmp 18) (.tmp 23) 24 (by rfl) Tryz.underlying24 Hj.out Hy0.out Hy1.out Hy2.out rfl (by omega) (by rfl) Hrow4.out (by omega) hbe (dV_cells _) hfe (by rfl) (reads_six w4 _ _ _ _ _ _) HLo.out.1 HLo.out.2 ?_
       intro V6 w6 hrow6 hg6 hat6
       have hto6:=RdTo.app (HI4.out.went.alloc (.cells #[.int .i64 k',.bool b',.int .i64 n',.string t',.slice la4 l'.length lc4,.slice oa4 o'.length oc4] 27)) hg6 Hrow4.out (by omega) hR
       have hres6:=blk_app (HI4.out.res.alloc (.cells #[.int .i64 k',.bool b',.int .i64 n',.string t',.slice la4 l'.length lc4,.slice oa4 o'.length oc4] 27)) hg6 Hrow4.out (by omega)
       have hv6:=blk_app Hv5.out hg6 Hrow4.out (by omega)
       rw[Htk.out]at hrow6
       refine hK.out _ _ trivial (fun hHeld=> ?_)
       clear hK K hg6 hat6 hfe hbe
       try simp only[Act.put,List.setIfInBounds_toArray]
       refine wpAnyH_take (i:=8) (v:= ?_) rfl (by kernel_rfl) (by kernel_rfl) (by kernel_rfl) (fun _ _ _ h=>h) (Or.inl ⟨by kernel_rfl, ?_⟩) hHeld ?_
       rotate_left
       · intro X hSw
         first|(go_simp;done)|(go_simp;with_reducible rfl)
       try simp only[Act.put]
       refine wpAnyH_ready (rs:= [9]) (by kernel_rfl) (by simp) ?_
       refine AllReadyH.cons rfl (fun K hK=> ?_) AllReadyH.nil
       have e6:=hv6.cell 4
       have f6:=hv6.frozen 4
       have hg6v:=hv6.lt
       obtain⟨a6,c6,rfl⟩:=hrow6.slice
       go_simp
       refine hK.out _ _ trivial (fun hHeld=> ?_)
       clear hK K
       try simp only[Act.put,List.setIfInBounds_toArray,List.set_cons_zero,List.set_cons_succ]
       refine wpAnyH_done (by kernel_rfl) ?_ _
       go_wp2
       go_meet
       exact⟨_,⟨hto6.setN _ (by simp) hR _,hres6.far (by simp) _,hv6.set_ 4 _⟩,hrow6.keep (by simp[World.setCell]) (fun i h1 _=>Below.heap_setCell _ _ _ _ (by simp;omega))⟩
     · skip
       go_simp
       with_reducible refine(HC.out _ (Below.drew (Below.refl _ _))).mono ?_
       rintro e w4 ⟨⟨cs,rfl,hf4⟩,h4⟩
       obtain⟨la4,lc4,oa4,oc4,rfl⟩:=six_now hf4
       obtain⟨wm,hs1,hs2,hs3⟩:=grownBy_split HRw.out h4.undrew.1
       have hI4:=HI.out.to_ hR h4.undrew
       have hrow4:=HRow.out.keep (by rw[hs1];exact Nat.le_refl _) (fun i h1 _=>hs2 i (by omega))
       have Hf4:Hid (Fresh wm.heap.size w4 (dV (.mk k' b' n' t' l' o')) [.int .i64 k',.bool b',.int .i64 n',.string t',.slice la4 l'.length lc4,.slice oa4 o'.length oc4]):=by rw[hs1];exact hf4
       have Hv4:=Lib.hid hI4.var
       have Hs3:=Lib.hid hs3
       have HI4:=Lib.hid hI4
       have Hrow4:=Lib.hid hrow4
       clear hs3 hI4 hrow4
       clear hf4 h4 hs2
       refine hK.out _ _ trivial (fun hHeld=> ?_)
       clear hK K
       try simp only[Act.put,List.setIfInBounds_toArray,List.set_cons_zero,List.set_cons_succ]
       refine wpAnyH_ready (rs:= [1,6]) (by kernel_rfl) (by simp) ?_
       refine AllReadyH.cons rfl (fun K hK=> ?_) (AllReadyH.cons rfl (fun K hK=> ?_) AllReadyH.nil)
       · skip
         have e4:=Hv4.out.cell 4
         go_simp
         refine hK.out _ _ trivial (fun hHeld=> ?_)
         clear hK K e4
         try simp only[Act.put,List.setIfInBounds_toArray,List.set_cons_zero,List.set_cons_succ]
         refine wpAnyH_ready (rs:= [6]) (by kernel_rfl) (by simp) ?_
         refine AllReadyH.cons rfl (fun K hK=> ?_) AllReadyH.nil
         go_simp
         have Hv5:=Lib.hid (Hv4.out.alloc (.cells #[.int .i64 k',.bool b',.int .i64 n',.string t',.slice la4 l'.length lc4,.slice oa4 o'.length oc4] 27))
         refine hK.out _ _ trivial (fun hHeld=> ?_)
         clear hK K
         try simp only[Act.put,List.setIfInBounds_toArray,List.set_cons_zero,List.set_cons_succ]
         refine wpAnyH_ready (rs:= [7]) (by kernel_rfl) (by simp) ?_
         refine AllReadyH.cons rfl (fun K hK=> ?_) AllReadyH.nil
         have hbe:=Hs3.out.alloc Hs3.out.size (.cells #[.int .i64 k',.bool b',.int .i64 n',.string t',.slice la4 l'.length lc4,.slice oa4 o'.length oc4] 27)
         have hfe:=Hf4.out.later (alloc_below w4 (.cells #[.int .i64 k',.bool b',.int .i64 n',.string t',.slice la4 l'.length lc4,.slice oa4 o'.length oc4] 27))
         refine step_append_D (d:=dV (.mk k' b' n' t' l' o')) (V:=.slice aV (dL acc).length cV) (by rfl) (.tmp 18) (.tmp 23) 24 (by rfl) Tryz.underlying24 Hj.out Hy0.out Hy1.out Hy2.out rfl (by omega) (by rfl) Hrow4.out (by omega) hbe (dV_cells _) hfe (by rfl) (reads_six w4 _ _ _ _ _ _) HLo.out.1 HLo.out.2 ?_
         intro V6 w6 hrow6 hg6 hat6
         have hto6:=RdTo.app (HI4.out.went.alloc (.cells #[.int .i64 k',.bool b',.int .i64 n',.string t',.slice la4 l'.length lc4,.slice oa4 o'.length oc4] 27)) hg6 Hrow4.out (by omega) hR
         have hres6:=blk_app (HI4.out.res.alloc (.cells #[.int .i64 k',.bool b',.int .i64 n',.string t',.slice la4 l'.length lc4,.slice oa4 o'.length oc4] 27)) hg6 Hrow4.out (by omega)
         have hv6:=blk_app Hv5.out hg6 Hrow4.out (by omega)
         rw[Htk.out]at hrow6
         refine hK.out _ _ trivial (fun hHeld=> ?_)
         clear hK K hg6 hat6 hfe hbe
         try simp only[Act.put,List.setIfInBounds_toArray]
         refine wpAnyH_take (i:=8) (v:= ?_) rfl (by kernel_rfl) (by kernel_rfl) (by kernel_rfl) (fun _ _ _ h=>h) (Or.inl ⟨by kernel_rfl, ?_⟩) hHeld ?_
         rotate_left
         · intro X hSw
           first|(go_simp;done)|(go_simp;with_reducible rfl)
         try simp only[Act.put]
         refine wpAnyH_ready (rs:= [9]) (by kernel_rfl) (by simp) ?_
         refine AllReadyH.cons rfl (fun K hK=> ?_) AllReadyH.nil
         have e6:=hv6.cell 4
         have f6:=hv6.frozen 4
         have hg6v:=hv6.lt
         obtain⟨a6,c6,rfl⟩:=hrow6.slice
         go_simp
         refine hK.out _ _ trivial (fun hHeld=> ?_)
         clear hK K
         try simp only[Act.put,List.setIfInBounds_toArray,List.set_cons_zero,List.set_cons_succ]
         refine wpAnyH_done (by kernel_rfl) ?_ _
         go_wp2
         go_meet
         exact⟨_,⟨hto6.setN _ (by simp) hR _,hres6.far (by simp) _,hv6.set_ 4 _⟩,hrow6.keep (by simp[World.setCell]) (fun i h1 _=>Below.heap_setCell _ _ _ _ (by simp;omega))⟩
       · skip
         go_simp
         have Hv5:=Lib.hid (Hv4.out.alloc (.cells #[.int .i64 k',.bool b',.int .i64 n',.string t',.slice la4 l'.length lc4,.slice oa4 o'.length oc4] 27))
         refine hK.out _ _ trivial (fun hHeld=> ?_)
         clear hK K
         try simp only[Act.put,List.setIfInBounds_toArray,List.set_cons_zero,List.set_cons_succ]
         refine wpAnyH_ready (rs:= [1]) (by kernel_rfl) (by simp) ?_
         refine AllReadyH.cons rfl (fun K hK=> ?_) AllReadyH.nil
         have e4:=Hv5.out.cell 4
         go_simp
         refine hK.out _ _ trivial (fun hHeld=> ?_)
         clear hK K e4
         try simp only[Act.put,List.setIfInBounds_toArray,List.set_cons_zero,List.set_cons_succ]
         refine wpAnyH_ready (rs:= [7]) (by kernel_rfl) (by simp) ?_
         refine AllReadyH.cons rfl (fun K hK=> ?_) AllReadyH.nil
         have hbe:=Hs3.out.alloc Hs3.out.size (.cells #[.int .i64 k',.bool b',.int .i64 n',.string t',.slice la4 l'.length lc4,.slice oa4 o'.length oc4] 27)
         have hfe:=Hf4.out.later (alloc_below w4 (.cells #[.int .i64 k',.bool b',.int .i64 n',.string t',.slice la4 l'.length lc4,.slice oa4 o'.length oc4] 27))
         refine step_append_D (d:=dV (.mk k' b' n' t' l' o')) (V:=.slice aV (dL acc).length cV) (by rfl) (.tmp 18) (.tmp 23) 24 (by rfl) Tryz.underlying24 Hj.out Hy0.out Hy1.out Hy2.out rfl (by omega) (by rfl) Hrow4.out (by omega) hbe (dV_cells _) hfe (by rfl) (reads_six w4 _ _ _ _ _ _) HLo.out.1 HLo.out.2 ?_
         intro V6 w6 hrow6 hg6 hat6
         have hto6:=RdTo.app (HI4.out.went.alloc (.cells #[.int .i64 k',.bool b',.int .i64 n',.string t',.slice la4 l'.length lc4,.slice oa4 o'.length oc4] 27)) hg6 Hrow4.out (by omega) hR
         have hres6:=blk_app (HI4.out.res.alloc (.cells #[.int .i64 k',.bool b',.int .i64 n',.string t',.slice la4 l'.length lc4,.slice oa4 o'.length oc4] 27)) hg6 Hrow4.out (by omega)
         have hv6:=blk_app Hv5.out hg6 Hrow4.out (by omega)
         rw[Htk.out]at hrow6
         refine hK.out _ _ trivial (fun hHeld=> ?_)
         clear hK K hg6 hat6 hfe hbe
         try simp only[Act.put,List.setIfInBounds_toArray]
         refine wpAnyH_take (i:=8) (v:= ?_) rfl (by kernel_rfl) (by kernel_rfl) (by kernel_rfl) (fun _ _ _ h=>h) (Or.inl ⟨by kernel_rfl, ?_⟩) hHeld ?_
         rotate_left
         · intro X hSw
           first|(go_simp;done)|(go_simp;with_reducible rfl)
         try simp only[Act.put]
         refine wpAnyH_ready (rs:= [9]) (by kernel_rfl) (by simp) ?_
         refine AllReadyH.cons rfl (fun K hK=> ?_) AllReadyH.nil
         have e6:=hv6.cell 4
         have f6:=hv6.frozen 4
         have hg6v:=hv6.lt
         obtain⟨a6,c6,rfl⟩:=hrow6.slice
         go_simp
         refine hK.out _ _ trivial (fun hHeld=> ?_)
         clear hK K
         try simp only[Act.put,List.setIfInBounds_toArray,List.set_cons_zero,List.set_cons_succ]
         refine wpAnyH_done (by kernel_rfl) ?_ _
         go_wp2
         go_meet
         exact⟨_,⟨hto6.setN _ (by simp) hR _,hres6.far (by simp) _,hv6.set_ 4 _⟩,hrow6.keep (by simp[World.setCell]) (fun i h1 _=>Below.heap_setCell _ _ _ _ (by simp;omega))⟩
    obtain⟨V',hI5,hrow5⟩:=hcut.out
    have hq':past s.data.toList q≤s.size:=past_size hw2
    have hq1:=past_ge s.data.toList q
    clear hcut HC HI Dl Htk Hv0 HRow HRw HLo ewr
    cases h44:decide (s.data.toList[past s.data.toList q]? =some 44)with
    |true=>
     have hC44:=comes_at R g s q 44 44 (by decide) wc (by omega) hw2 hI5.went.2 h44
     rw[if_pos rfl]at hC44
     have hc:=h44
     rw[decide_eq_true_iff]at hc
     have hr':=His.out
     rw[if_pos hc]at hr'
     have hlt8:=get_lt hc
     rw[size_toList]at hlt8
     clear hc h44
     have HI5:=Lib.hid hI5
     have Hrow5:=Lib.hid hrow5
     have HC44:=Lib.hid hC44
     have Hr':=Lib.hid hr'
     clear hI5 hrow5 hC44 hr'
     go_wp2_with (fail)
     with_reducible refine(HC44.out).mono ?_
     rintro e w8 ⟨rfl,h8⟩
     have HN:Hid (LRd w w8 R g s d RES (f+1) n (past s.data.toList q+1) (acc++ [.mk k' b' n' t' l' o']) V'):=⟨HI5.out.to_ hR h8,Hrow5.out.keep h8.1.size (fun i h1 h2=>h8.1.block i h2 (by intro e;have:=Option.some.inj e;omega)),Hr'.out,by omega,by omega,by simp;omega⟩
     clear h8
     go_wp2
     go_roundg n
     case measure=>omega
     case rel=>exact⟨n,_,_,_,rfl,by omega,HN⟩
    |false=>
     have hC44:=comes_at R g s q 44 44 (by decide) wc (by omega) hw2 hI5.went.2 h44
     rw[if_neg (by decide)]at hC44
     have hc:=h44
     rw[decide_eq_false_iff_not]at hc
     have hr':=His.out
     rw[if_neg hc]at hr'
     clear hc h44
     cases h93:decide (s.data.toList[past s.data.toList q]? =some 93)with
     |true=>
      have hc:=h93
      rw[decide_eq_true_iff]at hc
      rw[if_pos hc]at hr'
      clear hc
      subst hr'
      have HI5:=Lib.hid hI5
      have Hrow5:=Lib.hid hrow5
      have HC44:=Lib.hid hC44
      have H93:=Lib.hid h93
      clear hI5 hrow5 hC44 h93
      go_wp2_with (fail)
      with_reducible refine(HC44.out).mono ?_
      rintro e w8 ⟨rfl,h8⟩
      have h93':=H93.out
      rw[←past_past]at h93'
      have hC93:=comes_at R g s (past s.data.toList q) 93 93 (by decide) w8 (by omega) hq' h8.2 h93'
      rw[if_pos rfl,past_past]at hC93
      have hI8:=HI5.out.to_ hR h8
      have hrow8:=Hrow5.out.keep h8.1.size (fun i h1 h2=>h8.1.block i h2 (by intro e;have:=Option.some.inj e;omega))
      clear h8 h93'
      have HI8:=Lib.hid hI8
      have Hrow8:=Lib.hid hrow8
      have HC93:=Lib.hid hC93
      clear hI8 hrow8 hC93
      go_wp2_with (fail)
      with_reducible refine(HC93.out).mono ?_
      rintro e w9 ⟨rfl,h9⟩
      have hI9:=HI8.out.to_ hR h9
      have hrow9:=Hrow8.out.keep h9.1.size (fun i h1 h2=>h9.1.block i h2 (by intro e;have:=Option.some.inj e;omega))
      clear h9
      obtain⟨y0,y1,y2,y3,y4,y5⟩:=vcell hI9.var
      obtain⟨r0,r1,r2,r3,r4,r5⟩:=vcell hI9.res
      have fz:=hI9.res.frozen
      obtain⟨a',c',rfl,_,hfr,_⟩:=hrow9.close
      have el:(dL (acc++ [Val.mk k' b' n' t' l' o'])).length=acc.length+1:=by rw[dL_len];simp
      rw[el]at hfr y4
      obtain⟨hxf,hto⟩:=hI9.leave hR (.int .i64 5) (.bool false) (.int .i64 0) (.string ⟨#[]⟩) (.slice a' (acc.length+1) c') (.slice none 0 0)
      have hff:=fresh_lst (hfr.keep (b':=w.heap.size) (w':=setMany w9 w.heap.size 0 [.int .i64 5,.bool false,.int .i64 0,.string ⟨#[]⟩,.slice a' (acc.length+1) c',.slice none 0 0]) (by omega) (by rw[setMany_size];exact Nat.le_refl _) (fun p p1 p2=>World.cell?_of_block (setMany_far _ _ _ _ _ (by omega))))
      have HI9:=Lib.hid hI9
      have Hrow9:=Lib.hid hrow9
      have Hxf:=Lib.hid hxf
      have Hto:=Lib.hid hto
      have Hff:=Lib.hid hff
      have Hfr:=Lib.hid hfr
      clear hI9 hrow9 hxf hto hff hfr
      go_upto_region 9 with(fail)
      go_wp2
      rw[Exit.noGoto_ret]
      exact bodyPost_ret (results_cell6 rfl rfl Hxf.out) rfl ⟨⟨_,rfl,Hff.out⟩,Hto.out⟩
     |false=>
      have hc:=h93
      rw[decide_eq_false_iff_not]at hc
      rw[if_neg hc]at hr'
      clear hc
      subst hr'
      have HI5:=Lib.hid hI5
      have Hrow5:=Lib.hid hrow5
      have HC44:=Lib.hid hC44
      have H93:=Lib.hid h93
      clear hI5 hrow5 hC44 h93
      go_wp2_with (fail)
      with_reducible refine(HC44.out).mono ?_
      rintro e w8 ⟨rfl,h8⟩
      have h93':=H93.out
      rw[←past_past]at h93'
      have hC93:=comes_at R g s (past s.data.toList q) 93 93 (by decide) w8 (by omega) hq' h8.2 h93'
      rw[if_neg (by decide),past_past]at hC93
      have hI8:=HI5.out.to_ hR h8
      clear h8 h93'
      have HI8:=Lib.hid hI8
      have HC93:=Lib.hid hC93
      clear hI8 hC93
      go_wp2_with (fail)
      with_reducible refine(HC93.out).mono ?_
      rintro e w9 ⟨rfl,h9⟩
      have hI9:=HI8.out.to_ hR h9
      obtain⟨z0,z1,_,_,_⟩:=h9.2.cells
      clear h9
      have hW:=wrong_calls (.pointer (some ⟨R,0,none⟩)) 4 (past s.data.toList q:Nat) w9
      have HI9:=Lib.hid hI9
      have HW:=Lib.hid hW
      clear hI9 hW
      go_wp2_with (fail)
      with_reducible refine(HW.out).mono ?_
      rintro e w10 ⟨rfl,rfl⟩
      exact⟨rfl,rfl,HI9.out.went.1⟩
end Go.Proofs.YtkkbplakgldlpaaGreatDoor
