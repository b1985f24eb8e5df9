/- Parts, joined: parse.reader.object, where 'value' keeps its promise at a smaller fuel. Condition: a text of at most 10^8 bytes. Printed by mkrd.py. -/
import Derived.Test.YtkkbplakgldlpaaGreatDoorProg
import Derived.Deep.RegionLaw
import Derived.Test.YtkkbplakgldlpaaGreatDoorKMu19
import Derived.Test.YtkkbplakgldlpaaGreatDoorKMu21
namespace Go.Proofs.YtkkbplakgldlpaaGreatDoor
open Go Go.RowKit
structure ORd (w wr:World) (R g:Nat) (s:ByteArray) (d:Int) (RES:Rd Val) (G f n j:Nat) (acc:List (ByteArray×Val)) (V:Value):Prop where
 all:RdL w wr R g s j #[.int .i64 6,.bool false,.int .i64 0,.string ⟨#[]⟩,.slice none 0 0,V]
 row:RowD (G+1) 63 7 wr (dO acc) V
 map:MapAt Value.string wr G (keysM acc)
 nod:(acc.map (·.1)).Nodup
 is:membersF n s.data.toList j d acc=RES
 fuel:4*(s.size - j)+2≤n
 lt:n<f
 few:acc.length≤j
theorem RdL.seen {w wr w1 w2:World} {R g j q G:Nat} {s:ByteArray} {cs:Array Value} (h:RdL w wr R g s j cs) (hR:R<w.heap.size) (hG:w.heap.size+2≤G) (t:RdTo R g s q wr w1) (t2:w1.grownBy w2 (some G)):RdL w w2 R g s q cs:=by
 have h1:=h.to_ hR t
 have hne: ∀i,i<w.heap.size+2→some i≠some G:=fun i hi e=>by have:=Option.some.inj e;omega
 exact⟨⟨⟨t2.os.trans h1.went.1.os,t2.tape.trans h1.went.1.tape,t2.output.trans h1.went.1.output,Nat.le_trans h1.went.1.size t2.size,fun i hi hn=>(t2.block i (by have:=h1.went.1.size;omega) (hne i (by omega))).trans (h1.went.1.block i hi hn)⟩,Blk.grown h1.went.2 t2 (hne R (by omega))⟩,h1.res.grown t2 (hne _ (by omega)),h1.var.grown t2 (hne _ (by omega))⟩
theorem hasK_not {k:ByteArray} {acc:List (ByteArray×Val)} (h:hasK k acc=false) (hn:(acc.map (·.1)).Nodup) (v:Val):((acc++ [(k,v)]).map (·.1)).Nodup:=by
 rw[List.map_append,List.nodup_append]
 refine⟨hn,by simp,fun a ha b hb=> ?_⟩
 simp only[List.map_cons,List.map_nil,List.mem_cons,List.not_mem_nil,or_false]at hb
 subst hb
 rintro rfl
 obtain⟨m,hm,rfl⟩:=List.mem_map.1 ha
 have:hasK m.1 acc=true:=by
  unfold hasK
  rw[List.any_eq_true]
  exact⟨m,hm,by simp⟩
 rw[this]at h;cases h
set_option maxRecDepth 100000 in
set_option maxHeartbeats 16000000 in
theorem rdobj_calls (w0:World) (hT0:Tabs w0) (R g:Nat) (s:ByteArray) (f:Nat) (ih: ∀f',f'<f→ValC w0 R g s f') (w:World) (k:Nat) (d:Int) (h:RdI w0 w R g s k) (hs:s.size≤100000000) (hk:k<s.size) (hf:4*(s.size - k)≤f) (hd0:0≤d) (hd:d≤64):
 Calls Tryz.prog 139 #[.pointer (some ⟨R,0,none⟩),.int .i64 d] w (RVPost R g s w (objF f s.data.toList k d)):=by
 obtain⟨j0,hj,hy0,hy1,hy2⟩:=info_parts mem_info
 have hR:R<w.heap.size:=Blk.lt h.rd
 obtain⟨f,rfl⟩: ∃n,f=n+1:=⟨f - 1,by omega⟩
 have hP:=past_size (s:=s) (k:=k+1) (by omega)
 have hP1:=past_ge s.data.toList (k+1)
 have hI0:RdL w (((w.setCell ⟨R,1,none⟩ (.int .i64 ((k+1:Nat):Int))).alloc (.cells zero6 27)).alloc (.cells #[.int .i64 6,.bool false,.int .i64 0,.string ⟨#[]⟩,.slice none 0 0,.slice none 0 0] 27)) R g s (k+1) #[.int .i64 6,.bool false,.int .i64 0,.string ⟨#[]⟩,.slice none 0 0,.slice none 0 0]:=by
  refine⟨(((RdTo.refl h.rd).set _).alloc _).alloc _, ?_, ?_⟩
  · have:=(Blk.new (w.setCell ⟨R,1,none⟩ (.int .i64 ((k+1:Nat):Int))) 27 zero6).alloc (.cells #[.int .i64 6,.bool false,.int .i64 0,.string ⟨#[]⟩,.slice none 0 0,.slice none 0 0] 27)
    simpa[World.setCell]using this
  · have:=Blk.new ((w.setCell ⟨R,1,none⟩ (.int .i64 ((k+1:Nat):Int))).alloc (.cells zero6 27)) 27 #[.int .i64 6,.bool false,.int .i64 0,.string ⟨#[]⟩,.slice none 0 0,.slice none 0 0]
    simpa[World.setCell]using this
 have hz1:(((w.setCell ⟨R,1,none⟩ (.int .i64 ((k+1:Nat):Int))).alloc (.cells zero6 27)).alloc (.cells #[.int .i64 6,.bool false,.int .i64 0,.string ⟨#[]⟩,.slice none 0 0,.slice none 0 0] 27)).heap.size=w.heap.size+2:=by simp[World.setCell]
 obtain⟨c0,c1,_,f1,_⟩:=h.rd.cells
 have ek:((k:Int)+1)=((k+1:Nat):Int):=by omega
 obtain⟨RES,hRES⟩: ∃r,objF (f+1) s.data.toList k d=r:=⟨_,rfl⟩
 rw[hRES]
 unfold objF at hRES
 cases hB:decide (s.data.toList[past s.data.toList (k+1)]? =some 125)with
 |true=>
  have hc:=hB
  rw[decide_eq_true_iff]at hc
  rw[if_pos hc]at hRES
  subst hRES
  clear hc
  have Hj:=Lib.hid hj
  have Hy0:=Lib.hid hy0
  have Hy1:=Lib.hid hy1
  have Hy2:=Lib.hid hy2
  have Ih:=Lib.hid ih
  have H:=Lib.hid h
  have HI0:=Lib.hid hI0
  have Ek:=Lib.hid ek
  have HB:=Lib.hid hB
  clear hj hy0 hy1 hy2 ih h hI0 ek hB
  go_enter Tryz.func139,Tryz.ntmps139
  go_wp2
  go_step3
  go_wp2_with (fail)
  rw[Ek.out]
  generalize ((w.setCell ⟨R,1,none⟩ (.int .i64 ((k+1:Nat):Int))).alloc (.cells zero6 27)).alloc (.cells #[.int .i64 6,.bool false,.int .i64 0,.string ⟨#[]⟩,.slice none 0 0,.slice none 0 0] 27)=w1 at HI0 hz1 ⊢
  have hC:=comes_at R g s (k+1) 125 125 (by decide) w1 (by omega) (by omega) HI0.out.went.2 HB.out
  rw[if_pos rfl]at hC
  with_reducible refine hC.mono ?_
  rintro e w2 ⟨rfl,h2⟩
  have hI2:=HI0.out.to_ hR h2
  obtain⟨y0,y1,y2,y3,y4,y5⟩:=vcell hI2.var
  obtain⟨r0,r1,r2,r3,r4,r5⟩:=vcell hI2.res
  have fz:=hI2.res.frozen
  have HI2:=Lib.hid hI2
  clear hI2
  clear hC c0 c1 f1 h2 HI0
  dsimp only
  repeat go_step
  obtain⟨hxf,hto⟩:=HI2.out.leave hR (.int .i64 6) (.bool false) (.int .i64 0) (.string ⟨#[]⟩) (.slice none 0 0) (.slice none 0 0)
  rw[Exit.noGoto_ret]
  exact bodyPost_ret (results_cell6 rfl rfl hxf) rfl ⟨⟨_,rfl,fresh_leafs 6 false 0 _⟩,hto⟩
 |false=>
  have hc:=hB
  rw[decide_eq_false_iff_not]at hc
  rw[if_neg hc]at hRES
  clear hc
  have hmm:=fun W=>run_makeMap (P:=Tryz.prog) Tseen W
  have Hj:=Lib.hid hj
  have Hy0:=Lib.hid hy0
  have Hy1:=Lib.hid hy1
  have Hy2:=Lib.hid hy2
  have Ih:=Lib.hid ih
  have H:=Lib.hid h
  have HI0:=Lib.hid hI0
  have Ek:=Lib.hid ek
  have HB:=Lib.hid hB
  have HRES:=Lib.hid hRES
  have HT0:=Lib.hid hT0
  clear hj hy0 hy1 hy2 ih h hI0 ek hB hRES hT0
  go_enter Tryz.func139,Tryz.ntmps139
  go_wp2
  go_step3
  go_wp2_with (fail)
  rw[Ek.out]
  generalize ((w.setCell ⟨R,1,none⟩ (.int .i64 ((k+1:Nat):Int))).alloc (.cells zero6 27)).alloc (.cells #[.int .i64 6,.bool false,.int .i64 0,.string ⟨#[]⟩,.slice none 0 0,.slice none 0 0] 27)=w1 at HI0 hz1 ⊢
  have hC:=comes_at R g s (k+1) 125 125 (by decide) w1 (by omega) (by omega) HI0.out.went.2 HB.out
  rw[if_neg (by decide)]at hC
  with_reducible refine hC.mono ?_
  rintro e w2 ⟨rfl,h2⟩
  have hI2:=HI0.out.to_ hR h2
  have hG:w.heap.size+2≤w2.heap.size:=by have:=h2.1.size;omega
  have HL0:Hid (ORd w (w2.alloc (.map #[] 0)) R g s d RES w2.heap.size (f+1) f (past s.data.toList (k+1)) [] (.slice none 0 0)):=
   ⟨⟨hI2.went.alloc _,hI2.res.alloc _,hI2.var.alloc _⟩,by simpa[dO]using RowD.nil _ _ _ _,MapAt.new w2,by simp,HRES.out,by omega,by omega,by simp⟩
  clear hC c0 c1 f1 h2 HI0 HRES hI2 HB hz1
  generalize past s.data.toList (k+1)=p1 at HL0 hP hP1
  go_wp2
  go_step3
  go_wp2
  generalize w2.alloc (.map #[] 0)=w3 at HL0 ⊢
  generalize w2.heap.size=G at HL0 hG ⊢
  go_loopg [] f (fun n wr=> ∃m j acc V,m=n∧j≤s.size∧Hid (ORd w wr R g s d RES G (f+1) m j acc V))
  case atStart=>exact⟨f,p1, [],_,rfl,hP,HL0⟩
  case round=>
   obtain⟨n,j,acc,V,rfl,hj,hh⟩:=hrel
   clear HL0 hP hP1 p1
   have hn2:=hh.out.fuel
   have hnf:=hh.out.lt
   have hfw:=hh.out.few
   obtain⟨n,rfl⟩: ∃m,n=m+2:=⟨n - 2,by omega⟩
   have hI:=hh.out.all
   have hrow:=hh.out.row
   have his:=hh.out.is
   have hmp:=hh.out.map
   have hGlt:=hmp.lt
   have hGR:G≠R:=by omega
   have rdi:=H.out.to hI.went
   have hpj:past s.data.toList j≤s.size:=past_size hj
   have hpj1:=past_ge s.data.toList j
   have hK:=rdkey_calls R g G s acc j wr (fun W hW=>HT0.out.below (rdi.below.grown hW rdi.below.size fun r e=>by have:=Option.some.inj e;have:=rdi.ge;omega)) (by omega) hj hI.went.2 hmp hGR
   have hw:=unqAt_within (s:=s.data.toList) (p:=past s.data.toList j) (by rw[size_toList];exact hpj)
   rw[show n+2=(n+1)+1 from rfl]at his
   unfold membersF at his
   have Hnod:=Lib.hid hh.out.nod
   clear hh rdi
   cases hr:unqAt s.data.toList (past s.data.toList j)with
   |bad c q=>
    rw[hr]at hK his
    simp only at his
    subst his
    have HK:=Lib.hid hK
    have HI:=Lib.hid hI
    clear hK hI
    clear hw hr hrow hmp
    go_wp2_with (fail)
    with_reducible refine(HK.out).mono ?_
    rintro e w4 ⟨rfl,hg⟩
    exact⟨rfl,rfl,grownBy_trans HI.out.went.1 hg⟩
   |ok kk q=>
    rw[hr]at hK his hw
    simp only at his
    obtain⟨hw1,hw2⟩:=hw
    rw[size_toList]at hw2
    unfold KPost at hK
    dsimp only at hK
    obtain⟨KK,hKK⟩: ∃K:ByteArray,(⟨kk.toArray⟩:ByteArray)=K:=⟨_,rfl⟩
    rw[hKK]at his
    simp only[hKK]at hK
    clear hKK hr
    cases hkk:hasK KK acc with
    |true=>
     rw[if_pos hkk]at his
     simp only[hkk,if_true]at hK
     subst his
     have HK:=Lib.hid hK
     have HI:=Lib.hid hI
     clear hK hI
     clear hrow hmp
     go_wp2_with (fail)
     with_reducible refine(HK.out).mono ?_
     rintro e w4 ⟨rfl,hg⟩
     exact⟨rfl,rfl,grownBy_trans HI.out.went.1 hg⟩
    |false=>
     rw[if_neg (by rw[hkk];decide)]at his
     simp only[hkk,Bool.false_eq_true,if_false]at hK
     have Hkk:=Lib.hid hkk
     clear hkk
     cases h58:decide (s.data.toList[past s.data.toList q]? =some 58)with
     |false=>
      have hc:=h58
      rw[decide_eq_false_iff_not]at hc
      rw[if_neg hc]at his
      clear hc
      subst his
      have hpq:past s.data.toList q≤s.size:=past_size hw2
      have HK:=Lib.hid hK
      have HI:=Lib.hid hI
      have H58:=Lib.hid h58
      clear hK hI h58
      clear hrow hmp
      go_wp2_with (fail)
      with_reducible refine(HK.out).mono ?_
      rintro e w4 ⟨rfl,w4',t1,t2,hm4⟩
      have hI4:=HI.out.seen hR hG t1 t2
      clear t1 t2 hm4
      have hC58:=comes_at R g s q 58 58 (by decide) w4 (by omega) hw2 hI4.went.2 H58.out
      rw[if_neg (by decide)]at hC58
      have HC58:=Lib.hid hC58
      have HI4:=Lib.hid hI4
      clear hC58 hI4
      go_wp2_with (fail)
      with_reducible refine(HC58.out).mono ?_
      rintro e w5 ⟨rfl,h5⟩
      have hI5:=HI4.out.to_ hR h5
      obtain⟨z0,z1,_,_,_⟩:=h5.2.cells
      clear h5
      have hW:=wrong_calls (.pointer (some ⟨R,0,none⟩)) 4 (past s.data.toList q:Nat) w5
      have HI5:=Lib.hid hI5
      have HW:=Lib.hid hW
      clear hI5 hW
      go_wp2_with (fail)
      with_reducible refine(HW.out).mono ?_
      rintro e w10 ⟨rfl,rfl⟩
      exact⟨rfl,rfl,HI5.out.went.1⟩
     |true=>
      have hc:=h58
      rw[decide_eq_true_iff]at hc
      rw[if_pos hc]at his
      have hlt58:=get_lt hc
      rw[size_toList]at hlt58
      clear hc
      have hpq1:=past_ge s.data.toList q
      have HK:=Lib.hid hK
      have HI:=Lib.hid hI
      have H58:=Lib.hid h58
      have Hrow:=Lib.hid hrow
      have His:=Lib.hid his
      clear hK hI h58 hrow his
      clear hmp
      go_wp2_with (fail)
      with_reducible refine(HK.out).mono ?_
      rintro e w4 ⟨rfl,w4',t1,t2,hm4⟩
      have hI4:=HI.out.seen hR hG t1 t2
      have hrow4:=Hrow.out.keep (Nat.le_trans t1.1.size t2.size) (fun i h1 h2=>(t2.block i (Nat.lt_of_lt_of_le h2 t1.1.size) (by intro e;have:=Option.some.inj e;omega)).trans (t1.1.block i h2 (by intro e;have:=Option.some.inj e;omega)))
      clear t1 t2
      have hC58:=comes_at R g s q 58 58 (by decide) w4 (by omega) hw2 hI4.went.2 H58.out
      rw[if_pos rfl]at hC58
      have HC58:=Lib.hid hC58
      have HI4:=Lib.hid hI4
      have Hrow4:=Lib.hid hrow4
      have Hm4:=Lib.hid hm4
      clear hC58 hI4 hrow4 hm4
      go_wp2_with (fail)
      with_reducible refine(HC58.out).mono ?_
      rintro e wq ⟨rfl,h5⟩
      have hI:=HI4.out.to_ hR h5
      have hrow:=Hrow4.out.keep h5.1.size (fun i h1 h2=>h5.1.block i h2 (by intro e;have:=Option.some.inj e;omega))
      have hmp:=Hm4.out.grown h5.1 (by intro e;have:=Option.some.inj e;omega)
      clear h5 HC58 HI4 Hrow4 Hm4 HK HI Hrow hGlt
      have his:=His.out
      have hPn:past s.data.toList q+1≤s.size:=by omega
      generalize hpn:past s.data.toList q+1=p2 at*
      unfold memberF at his
      obtain⟨aV,cV,rfl⟩:=hrow.slice
      have rdi:=H.out.to hI.went
      have hC: ∀W,Below wq.heap.size wq W→Calls Tryz.prog 91 #[.pointer (some ⟨R,0,none⟩),.int .i64 (d+1)] W (RVPost R g s W (valueF n s.data.toList p2 (d+1))):=fun W hW=>Ih.out n (by omega) W p2 (d+1) (rdi.later hW) hPn (by omega) (by omega) (by omega)
      have hw:=(within_all n).1 s.data.toList p2 (d+1) (by rw[size_toList];exact hPn)
      have ewr:IntKind.i64.wrap (d+1)=d+1:=IntWalk.i64_in _ (by omega)
      have hgv:=hI.var.lt
      have dl:(dO acc).length=acc.length:=dO_len _
      have hGlt:=hmp.lt
      cases hr:valueF n s.data.toList p2 (d+1)with
      |bad c q'=>
       rw[hr]at hC his
       simp only at his
       subst his
       have Hv0:=Lib.hid hI.var.drew
       have HRow:=Lib.hid hrow
       have HRw:=Lib.hid (show R<wq.heap.size by have:=hI.went.1.size;omega)
       have HC:=Lib.hid hC
       have HI:=Lib.hid hI
       have Dl:=Lib.hid dl
       clear hC hI dl
       clear hw hr rdi hrow hmp His
       go_upto_region 9 with(fail)
       refine wp_region_held_drew (S:=fun _=>True) (by kernel_rfl) trivial (fun hHeld=> ?_)
       refine wpAnyH_take (i:=0) (v:= ?_) rfl (by kernel_rfl) (by kernel_rfl) (by kernel_rfl) (fun _ _ _ h=>h) (Or.inl ⟨by kernel_rfl, ?_⟩) hHeld ?_
       rotate_left
       · intro X hSw
         first|(go_simp;done)|(go_simp;with_reducible rfl)
       try simp only[Act.put,List.setIfInBounds_toArray]
       refine wpAnyH_take (i:=2) (v:= ?_) rfl (by kernel_rfl) (by kernel_rfl) (by kernel_rfl) (fun _ _ _ h=>h) (Or.inl ⟨by kernel_rfl, ?_⟩) hHeld ?_
       rotate_left
       · intro X hSw
         first|(go_simp;done)|(go_simp;with_reducible rfl)
       try simp only[Act.put]
       refine wpAnyH_take (i:=3) (v:= ?_) rfl (by kernel_rfl) (by kernel_rfl) (by kernel_rfl) (fun _ _ _ h=>h) (Or.inl ⟨by kernel_rfl, ?_⟩) hHeld ?_
       rotate_left
       · intro X hSw
         first|(go_simp;done)|(go_simp;with_reducible rfl)
       try simp only[Act.put]
       refine wpAnyH_take (i:=4) (v:= ?_) rfl (by kernel_rfl) (by kernel_rfl) (by kernel_rfl) (fun _ _ _ h=>h) (Or.inl ⟨by kernel_rfl, ?_⟩) hHeld ?_
       rotate_left
       · intro X hSw
         first|(go_simp;done)|(go_simp;with_reducible rfl)
       try simp only[Act.put]
       refine wpAnyH_take (i:=5) (v:= ?_) rfl (by kernel_rfl) (by kernel_rfl) (by kernel_rfl) (fun _ _ _ h=>h) (Or.inl ⟨by kernel_rfl, ?_⟩) hHeld ?_
       rotate_left
       · intro X hSw
         first|(go_simp;done)|(go_simp;with_reducible rfl)
       try simp only[Act.put]
       refine wpAnyH_ready (rs:= [1,6]) (by kernel_rfl) (by simp) ?_
       refine AllReadyH.cons rfl (fun K hK=> ?_) (AllReadyH.cons rfl (fun K hK=> ?_) AllReadyH.nil)
       · skip
         have e4:=Hv0.out.cell 5
         go_simp
         refine hK.out _ _ trivial (fun hHeld=> ?_)
         clear hK K e4
         try simp only[Act.put,List.setIfInBounds_toArray,List.set_cons_zero,List.set_cons_succ]
         refine wpAnyH_ready (rs:= [6]) (by kernel_rfl) (by simp) ?_
         refine AllReadyH.cons rfl (fun K hK=> ?_) AllReadyH.nil
         go_simp
         with_reducible refine(HC.out _ (Below.drew (Below.refl _ _))).mono ?_
         rintro e w4 ⟨rfl,hg⟩
         exact⟨rfl,rfl,grownBy_trans HI.out.went.1 ⟨hg.os,hg.tape,hg.output,hg.size,hg.block⟩⟩
       · skip
         go_simp
         with_reducible refine(HC.out _ (Below.drew (Below.refl _ _))).mono ?_
         rintro e w4 ⟨rfl,hg⟩
         exact⟨rfl,rfl,grownBy_trans HI.out.went.1 ⟨hg.os,hg.tape,hg.output,hg.size,hg.block⟩⟩
      |ok v q'=>
       rw[hr]at hC his hw
       simp only at his
       obtain⟨hw3,hw4⟩:=hw
       rw[size_toList]at hw4
       obtain⟨k',b',n',t',l',o'⟩:=v
       have htk:dO acc++ [dP (KK,.mk k' b' n' t' l' o')]=dO (acc++ [(KK,.mk k' b' n' t' l' o')]):=by rw[dO_map,dO_map];simp
       have HLo:Hid ((dO acc).length+1≤maxLen∧((dO acc).length+1)*104≤140737488355328):=by rw[dl];exact⟨by simp only[maxLen];omega,by omega⟩
       have Hv0:=Lib.hid hI.var.drew
       have HRow:=Lib.hid hrow
       have HRw:=Lib.hid (show R<wq.heap.size by have:=hI.went.1.size;omega)
       have HMp:=Lib.hid hmp
       have His':=Lib.hid his
       have HC:=Lib.hid hC
       have HI:=Lib.hid hI
       have Dl:=Lib.hid dl
       have Htk:=Lib.hid htk
       clear hC hI dl htk
       clear hr rdi hrow hmp His his
       go_upto_region 9 with(fail)
       go_cut [] (fun wx=>Hid (∃V,RdL w wx R g s q' #[.int .i64 6,.bool false,.int .i64 0,.string ⟨#[]⟩,.slice none 0 0,V]∧RowD (G+1) 63 7 wx (dO (acc++ [(KK,.mk k' b' n' t' l' o')])) V∧MapAt Value.string wx G (keysM acc++ [(KK,.agg #[])])))
       case first=>
        refine wp_region_held_drew (S:=fun _=>True) (by kernel_rfl) trivial (fun hHeld=> ?_)
        refine wpAnyH_take (i:=0) (v:= ?_) rfl (by kernel_rfl) (by kernel_rfl) (by kernel_rfl) (fun _ _ _ h=>h) (Or.inl ⟨by kernel_rfl, ?_⟩) hHeld ?_
        rotate_left
        · intro X hSw
          first|(go_simp;done)|(go_simp;with_reducible rfl)
        try simp only[Act.put,List.setIfInBounds_toArray]
        refine wpAnyH_take (i:=2) (v:= ?_) rfl (by kernel_rfl) (by kernel_rfl) (by kernel_rfl) (fun _ _ _ h=>h) (Or.inl ⟨by kernel_rfl, ?_⟩) hHeld ?_
        rotate_left
        · intro X hSw
          first|(go_simp;done)|(go_simp;with_reducible rfl)
        try simp only[Act.put]
        refine wpAnyH_take (i:=3) (v:= ?_) rfl (by kernel_rfl) (by kernel_rfl) (by kernel_rfl) (fun _ _ _ h=>h) (Or.inl ⟨by kernel_rfl, ?_⟩) hHeld ?_
        rotate_left
        · intro X hSw
          first|(go_simp;done)|(go_simp;with_reducible rfl)
        try simp only[Act.put]
        refine wpAnyH_take (i:=4) (v:= ?_) rfl (by kernel_rfl) (by kernel_rfl) (by kernel_rfl) (fun _ _ _ h=>h) (Or.inl ⟨by kernel_rfl, ?_⟩) hHeld ?_
        rotate_left
        · intro X hSw
          first|(go_simp;done)|(go_simp;with_reducible rfl)
        try simp only[Act.put]
        refine wpAnyH_take (i:=5) (v:= ?_) rfl (by kernel_rfl) (by kernel_rfl) (by kernel_rfl) (fun _ _ _ h=>h) (Or.inl ⟨by kernel_rfl, ?_⟩) hHeld ?_
        rotate_left
        · intro X hSw
          first|(go_simp;done)|(go_simp;with_reducible rfl)
        try simp only[Act.put]
        refine wpAnyH_ready (rs:= [1,6]) (by kernel_rfl) (by simp) ?_
        refine AllReadyH.cons rfl (fun K hK=> ?_) (AllReadyH.cons rfl (fun K hK=> ?_) AllReadyH.nil)
        · skip
          have e4:=Hv0.out.cell 5
          go_simp
          refine hK.out _ _ trivial (fun hHeld=> ?_)
          clear hK K e4
          try simp only[Act.put,List.setIfInBounds_toArray,List.set_cons_zero,List.set_cons_succ]
          refine wpAnyH_ready (rs:= [6]) (by kernel_rfl) (by simp) ?_
          refine AllReadyH.cons rfl (fun K hK=> ?_) AllReadyH.nil
          go_simp
          with_reducible refine(HC.out _ (Below.drew (Below.refl _ _))).mono ?_
          rintro e w4 ⟨⟨cs,rfl,hf4⟩,h4⟩
          obtain⟨la4,lc4,oa4,oc4,rfl⟩:=six_now hf4
          obtain⟨wm,hs1,hs2,hs3⟩:=grownBy_split HRw.out h4.undrew.1
          have hI4:=HI.out.to_ hR h4.undrew
          have hrow4:=HRow.out.keep (by rw[hs1];exact Nat.le_refl _) (fun i h1 _=>hs2 i (by omega))
          have Hf4:Hid (Fresh wm.heap.size w4 (dV (.mk k' b' n' t' l' o')) [.int .i64 k',.bool b',.int .i64 n',.string t',.slice la4 l'.length lc4,.slice oa4 o'.length oc4]):=by rw[hs1];exact hf4
          have Hv4:=Lib.hid hI4.var
          have Hs3:=Lib.hid hs3
          have HI4:=Lib.hid hI4
          have Hrow4:=Lib.hid hrow4
          clear hs3 hI4 hrow4
          have HMp4:=Lib.hid (HMp.out.grown h4.undrew.1 (by intro e;have:=Option.some.inj e;omega))
          clear hf4 h4 hs2
          refine hK.out _ _ trivial (fun hHeld=> ?_)
          clear hK K
          try simp only[Act.put,List.setIfInBounds_toArray,List.set_cons_zero,List.set_cons_succ]
          refine wpAnyH_take (i:=7) (v:= ?_) rfl (by kernel_rfl) (by kernel_rfl) (by kernel_rfl) (fun _ _ _ h=>h) (Or.inl ⟨by kernel_rfl, ?_⟩) hHeld ?_
          rotate_left
          · intro X hSw
            first|(go_simp;done)|(go_simp;with_reducible rfl)
          try simp only[Act.put,List.setIfInBounds_toArray]
          refine wpAnyH_ready (rs:= [8]) (by kernel_rfl) (by simp) ?_
          refine AllReadyH.cons rfl (fun K hK=> ?_) AllReadyH.nil
          go_simp
          have Hv5:=Lib.hid (Hv4.out.alloc (.cells #[.string KK,.int .i64 k',.bool b',.int .i64 n',.string t',.slice la4 l'.length lc4,.slice oa4 o'.length oc4] 63))
          refine hK.out _ _ trivial (fun hHeld=> ?_)
          clear hK K
          try simp only[Act.put,List.setIfInBounds_toArray,List.set_cons_zero,List.set_cons_succ]
          refine wpAnyH_ready (rs:= [9]) (by kernel_rfl) (by simp) ?_
          refine AllReadyH.cons rfl (fun K hK=> ?_) AllReadyH.nil
          have hbe:=Hs3.out.alloc Hs3.out.size (.cells #[.string KK,.int .i64 k',.bool b',.int .i64 n',.string t',.slice la4 l'.length lc4,.slice oa4 o'.length oc4] 63)
          have hfe:=(dP_fresh (key:=KK) Hf4.out).later (alloc_below w4 (.cells #[.string KK,.int .i64 k',.bool b',.int .i64 n',.string t',.slice la4 l'.length lc4,.slice oa4 o'.length oc4] 63))
          refine step_append_D (d:=dP (KK,.mk k' b' n' t' l' o')) (V:=.slice aV (dO acc).length cV) (by rfl) (.tmp 33) (.tmp 40) 25 (by rfl) Tryz.underlying25 Hj.out Hy0.out Hy1.out Hy2.out rfl (by omega) (by rfl) Hrow4.out (by omega) hbe (dP_cells _) hfe (by rfl) (reads_seven w4 _ _ _ _ _ _ _) HLo.out.1 HLo.out.2 ?_
          intro V6 w6 hrow6 hg6 hat6
          have hto6:=RdTo.app (HI4.out.went.alloc (.cells #[.string KK,.int .i64 k',.bool b',.int .i64 n',.string t',.slice la4 l'.length lc4,.slice oa4 o'.length oc4] 63)) hg6 Hrow4.out (by omega) hR
          have hres6:=blk_app (HI4.out.res.alloc (.cells #[.string KK,.int .i64 k',.bool b',.int .i64 n',.string t',.slice la4 l'.length lc4,.slice oa4 o'.length oc4] 63)) hg6 Hrow4.out (by omega)
          have hv6:=blk_app Hv5.out hg6 Hrow4.out (by omega)
          have hm6:=(HMp4.out.alloc (.cells #[.string KK,.int .i64 k',.bool b',.int .i64 n',.string t',.slice la4 l'.length lc4,.slice oa4 o'.length oc4] 63)).grown hg6 (by intro e;have:=(Hrow4.out.base _ e.symm).1;omega)
          rw[Htk.out]at hrow6
          refine hK.out _ _ trivial (fun hHeld=> ?_)
          clear hK K hg6 hat6 hfe hbe
          try simp only[Act.put,List.setIfInBounds_toArray]
          refine wpAnyH_take (i:=10) (v:= ?_) rfl (by kernel_rfl) (by kernel_rfl) (by kernel_rfl) (fun _ _ _ h=>h) (Or.inl ⟨by kernel_rfl, ?_⟩) hHeld ?_
          rotate_left
          · intro X hSw
            first|(go_simp;done)|(go_simp;with_reducible rfl)
          try simp only[Act.put]
          refine wpAnyH_ready (rs:= [11]) (by kernel_rfl) (by simp) ?_
          refine AllReadyH.cons rfl (fun K hK=> ?_) AllReadyH.nil
          have e6:=hv6.cell 5
          have f6:=hv6.frozen 5
          have hg6v:=hv6.lt
          obtain⟨a6,c6,rfl⟩:=hrow6.slice
          go_simp
          refine hK.out _ _ trivial (fun hHeld=> ?_)
          clear hK K
          try simp only[Act.put,List.setIfInBounds_toArray,List.set_cons_zero,List.set_cons_succ]
          refine wpAnyH_done (by kernel_rfl) ?_ _
          go_wp2
          go_meet
          exact⟨_,⟨hto6.setN _ (by simp) hR _,hres6.far (by simp) _,hv6.set_ 5 _⟩,hrow6.keep (by simp[World.setCell]) (fun i h1 _=>Below.heap_setCell _ _ _ _ (by simp;omega)),hm6.setCell (by simp;omega) _⟩
        · skip
          go_simp
          with_reducible refine(HC.out _ (Below.drew (Below.refl _ _))).mono ?_
          rintro e w4 ⟨⟨cs,rfl,hf4⟩,h4⟩
          obtain⟨la4,lc4,oa4,oc4,rfl⟩:=six_now hf4
          obtain⟨wm,hs1,hs2,hs3⟩:=grownBy_split HRw.out h4.undrew.1
          have hI4:=HI.out.to_ hR h4.undrew
          have hrow4:=HRow.out.keep (by rw[hs1];exact Nat.le_refl _) (fun i h1 _=>hs2 i (by omega))
          have Hf4:Hid (Fresh wm.heap.size w4 (dV (.mk k' b' n' t' l' o')) [.int .i64 k',.bool b',.int .i64 n',.string t',.slice la4 l'.length lc4,.slice oa4 o'.length oc4]):=by rw[hs1];exact hf4
          have Hv4:=Lib.hid hI4.var
          have Hs3:=Lib.hid hs3
          have HI4:=Lib.hid hI4
          have Hrow4:=Lib.hid hrow4
          clear hs3 hI4 hrow4
          have HMp4:=Lib.hid (HMp.out.grown h4.undrew.1 (by intro e;have:=Option.some.inj e;omega))
          clear hf4 h4 hs2
          refine hK.out _ _ trivial (fun hHeld=> ?_)
          clear hK K
          try simp only[Act.put,List.setIfInBounds_toArray,List.set_cons_zero,List.set_cons_succ]
          refine wpAnyH_take (i:=7) (v:= ?_) rfl (by kernel_rfl) (by kernel_rfl) (by kernel_rfl) (fun _ _ _ h=>h) (Or.inl ⟨by kernel_rfl, ?_⟩) hHeld ?_
          rotate_left
          · intro X hSw
            first|(go_simp;done)|(go_simp;with_reducible rfl)
          try simp only[Act.put,List.setIfInBounds_toArray]
          refine wpAnyH_ready (rs:= [1,8]) (by kernel_rfl) (by simp) ?_
          refine AllReadyH.cons rfl (fun K hK=> ?_) (AllReadyH.cons rfl (fun K hK=> ?_) AllReadyH.nil)
          · skip
            have e4:=Hv4.out.cell 5
            go_simp
            refine hK.out _ _ trivial (fun hHeld=> ?_)
            clear hK K e4
            try simp only[Act.put,List.setIfInBounds_toArray,List.set_cons_zero,List.set_cons_succ]
            refine wpAnyH_ready (rs:= [8]) (by kernel_rfl) (by simp) ?_
            refine AllReadyH.cons rfl (fun K hK=> ?_) AllReadyH.nil
            go_simp
            have Hv5:=Lib.hid (Hv4.out.alloc (.cells #[.string KK,.int .i64 k',.bool b',.int .i64 n',.string t',.slice la4 l'.length lc4,.slice oa4 o'.length oc4] 63))
            refine hK.out _ _ trivial (fun hHeld=> ?_)
            clear hK K
            try simp only[Act.put,List.setIfInBounds_toArray,List.set_cons_zero,List.set_cons_succ]
            refine wpAnyH_ready (rs:= [9]) (by kernel_rfl) (by simp) ?_
            refine AllReadyH.cons rfl (fun K hK=> ?_) AllReadyH.nil
            have hbe:=Hs3.out.alloc Hs3.out.size (.cells #[.string KK,.int .i64 k',.bool b',.int .i64 n',.string t',.slice la4 l'.length lc4,.slice oa4 o'.length oc4] 63)
            have hfe:=(dP_fresh (key:=KK) Hf4.out).later (alloc_below w4 (.cells #[.string KK,.int .i64 k',.bool b',.int .i64 n',.string t',.slice la4 l'.length lc4,.slice oa4 o'.length oc4] 63))
            refine step_append_D (d:=dP (KK,.mk k' b' n' t' l' o')) (V:=.slice aV (dO acc).length cV) (by rfl) (.tmp 33) (.tmp 40) 25 (by rfl) Tryz.underlying25 Hj.out Hy0.out Hy1.out Hy2.out rfl (by omega) (by rfl) Hrow4.out (by omega) hbe (dP_cells _) hfe (by rfl) (reads_seven w4 _ _ _ _ _ _ _) HLo.out.1 HLo.out.2 ?_
            intro V6 w6 hrow6 hg6 hat6
            have hto6:=RdTo.app (HI4.out.went.alloc (.cells #[.string KK,.int .i64 k',.bool b',.int .i64 n',.string t',.slice la4 l'.length lc4,.slice oa4 o'.length oc4] 63)) hg6 Hrow4.out (by omega) hR
            have hres6:=blk_app (HI4.out.res.alloc (.cells #[.string KK,.int .i64 k',.bool b',.int .i64 n',.string t',.slice la4 l'.length lc4,.slice oa4 o'.length oc4] 63)) hg6 Hrow4.out (by omega)
            have hv6:=blk_app Hv5.out hg6 Hrow4.out (by omega)
            have hm6:=(HMp4.out.alloc (.cells #[.string KK,.int .i64 k',.bool b',.int .i64 n',.string t',.slice la4 l'.length lc4,.slice oa4 o'.length oc4] 63)).grown hg6 (by intro e;have:=(Hrow4.out.base _ e.symm).1;omega)
            rw[Htk.out]at hrow6
            refine hK.out _ _ trivial (fun hHeld=> ?_)
            clear hK K hg6 hat6 hfe hbe
            try simp only[Act.put,List.setIfInBounds_toArray]
            refine wpAnyH_take (i:=10) (v:= ?_) rfl (by kernel_rfl) (by kernel_rfl) (by kernel_rfl) (fun _ _ _ h=>h) (Or.inl ⟨by kernel_rfl, ?_⟩) hHeld ?_
            rotate_left
            · intro X hSw
              first|(go_simp;done)|(go_simp;with_reducible rfl)
            try simp only[Act.put]
            refine wpAnyH_ready (rs:= [11]) (by kernel_rfl) (by simp) ?_
            refine AllReadyH.cons rfl (fun K hK=> ?_) AllReadyH.nil
            have e6:=hv6.cell 5
            have f6:=hv6.frozen 5
            have hg6v:=hv6.lt
            obtain⟨a6,c6,rfl⟩:=hrow6.slice
            go_simp
            refine hK.out _ _ trivial (fun hHeld=> ?_)
            clear hK K
            try simp only[Act.put,List.setIfInBounds_toArray,List.set_cons_zero,List.set_cons_succ]
            refine wpAnyH_done (by kernel_rfl) ?_ _
            go_wp2
            go_meet
            exact⟨_,⟨hto6.setN _ (by simp) hR _,hres6.far (by simp) _,hv6.set_ 5 _⟩,hrow6.keep (by simp[World.setCell]) (fun i h1 _=>Below.heap_setCell _ _ _ _ (by simp;omega)),hm6.setCell (by simp;omega) _⟩
          · skip
            go_simp
            have Hv5:=Lib.hid (Hv4.out.alloc (.cells #[.string KK,.int .i64 k',.bool b',.int .i64 n',.string t',.slice la4 l'.length lc4,.slice oa4 o'.length oc4] 63))
            refine hK.out _ _ trivial (fun hHeld=> ?_)
            clear hK K
            try simp only[Act.put,List.setIfInBounds_toArray,List.set_cons_zero,List.set_cons_succ]
            refine wpAnyH_ready (rs:= [1]) (by kernel_rfl) (by simp) ?_
            refine AllReadyH.cons rfl (fun K hK=> ?_) AllReadyH.nil
            have e4:=Hv5.out.cell 5
            go_simp
            refine hK.out _ _ trivial (fun hHeld=> ?_)
            clear hK K e4
            try simp only[Act.put,List.setIfInBounds_toArray,List.set_cons_zero,List.set_cons_succ]
            refine wpAnyH_ready (rs:= [9]) (by kernel_rfl) (by simp) ?_
            refine AllReadyH.cons rfl (fun K hK=> ?_) AllReadyH.nil
            have hbe:=Hs3.out.alloc Hs3.out.size (.cells #[.string KK,.int .i64 k',.bool b',.int .i64 n',.string t',.slice la4 l'.length lc4,.slice oa4 o'.length oc4] 63)
            have hfe:=(dP_fresh (key:=KK) Hf4.out).later (alloc_below w4 (.cells #[.string KK,.int .i64 k',.bool b',.int .i64 n',.string t',.slice la4 l'.length lc4,.slice oa4 o'.length oc4] 63))
            refine step_append_D (d:=dP (KK,.mk k' b' n' t' l' o')) (V:=.slice aV (dO acc).length cV) (by rfl) (.tmp 33) (.tmp 40) 25 (by rfl) Tryz.underlying25 Hj.out Hy0.out Hy1.out Hy2.out rfl (by omega) (by rfl) Hrow4.out (by omega) hbe (dP_cells _) hfe (by rfl) (reads_seven w4 _ _ _ _ _ _ _) HLo.out.1 HLo.out.2 ?_
            intro V6 w6 hrow6 hg6 hat6
            have hto6:=RdTo.app (HI4.out.went.alloc (.cells #[.string KK,.int .i64 k',.bool b',.int .i64 n',.string t',.slice la4 l'.length lc4,.slice oa4 o'.length oc4] 63)) hg6 Hrow4.out (by omega) hR
            have hres6:=blk_app (HI4.out.res.alloc (.cells #[.string KK,.int .i64 k',.bool b',.int .i64 n',.string t',.slice la4 l'.length lc4,.slice oa4 o'.length oc4] 63)) hg6 Hrow4.out (by omega)
            have hv6:=blk_app Hv5.out hg6 Hrow4.out (by omega)
            have hm6:=(HMp4.out.alloc (.cells #[.string KK,.int .i64 k',.bool b',.int .i64 n',.string t',.slice la4 l'.length lc4,.slice oa4 o'.length oc4] 63)).grown hg6 (by intro e;have:=(Hrow4.out.base _ e.symm).1;omega)
            rw[Htk.out]at hrow6
            refine hK.out _ _ trivial (fun hHeld=> ?_)
            clear hK K hg6 hat6 hfe hbe
            try simp only[Act.put,List.setIfInBounds_toArray]
            refine wpAnyH_take (i:=10) (v:= ?_) rfl (by kernel_rfl) (by kernel_rfl) (by kernel_rfl) (fun _ _ _ h=>h) (Or.inl ⟨by kernel_rfl, ?_⟩) hHeld ?_
            rotate_left
            · intro X hSw
              first|(go_simp;done)|(go_simp;with_reducible rfl)
            try simp only[Act.put]
            refine wpAnyH_ready (rs:= [11]) (by kernel_rfl) (by simp) ?_
            refine AllReadyH.cons rfl (fun K hK=> ?_) AllReadyH.nil
            have e6:=hv6.cell 5
            have f6:=hv6.frozen 5
            have hg6v:=hv6.lt
            obtain⟨a6,c6,rfl⟩:=hrow6.slice
            go_simp
            refine hK.out _ _ trivial (fun hHeld=> ?_)
            clear hK K
            try simp only[Act.put,List.setIfInBounds_toArray,List.set_cons_zero,List.set_cons_succ]
            refine wpAnyH_done (by kernel_rfl) ?_ _
            go_wp2
            go_meet
            exact⟨_,⟨hto6.setN _ (by simp) hR _,hres6.far (by simp) _,hv6.set_ 5 _⟩,hrow6.keep (by simp[World.setCell]) (fun i h1 _=>Below.heap_setCell _ _ _ _ (by simp;omega)),hm6.setCell (by simp;omega) _⟩
       obtain⟨V',hI5,hrow5,hmp5⟩:=hcut.out
       have hG5:=hmp5.lt
       have hq':past s.data.toList q'≤s.size:=past_size hw4
       have hq1:=past_ge s.data.toList q'
       have hnd:=hasK_not Hkk.out Hnod.out (.mk k' b' n' t' l' o')
       clear hcut HC HI Dl Htk Hv0 HRow HRw HLo ewr HMp Hkk Hnod
       cases h44:decide (s.data.toList[past s.data.toList q']? =some 44)with
       |true=>
        have hC44:=comes_at R g s q' 44 44 (by decide) wc (by omega) hw4 hI5.went.2 h44
        rw[if_pos rfl]at hC44
        have hc:=h44
        rw[decide_eq_true_iff]at hc
        have hr':=His'.out
        rw[if_pos hc]at hr'
        have hlt8:=get_lt hc
        rw[size_toList]at hlt8
        clear hc h44
        have HI5:=Lib.hid hI5
        have Hrow5:=Lib.hid hrow5
        have HC44:=Lib.hid hC44
        have Hr':=Lib.hid hr'
        have Hmp5:=Lib.hid hmp5
        have Hnd:=Lib.hid hnd
        clear hI5 hrow5 hC44 hr' hmp5 hnd
        go_wp2_with (fail)
        with_reducible refine(HC44.out).mono ?_
        rintro e w8 ⟨rfl,h8⟩
        have HN:Hid (ORd w w8 R g s d RES G (f+1) n (past s.data.toList q'+1) (acc++ [(KK,.mk k' b' n' t' l' o')]) V'):=⟨HI5.out.to_ hR h8,Hrow5.out.keep h8.1.size (fun i h1 h2=>h8.1.block i h2 (by intro e;have:=Option.some.inj e;omega)),by simpa[keysM]using Hmp5.out.grown h8.1 (by intro e;have:=Option.some.inj e;omega),Hnd.out,Hr'.out,by omega,by omega,by simp;omega⟩
        clear h8
        go_wp2
        go_roundg n
        case measure=>omega
        case rel=>exact⟨n,_,_,_,rfl,by omega,HN⟩
       |false=>
        have hC44:=comes_at R g s q' 44 44 (by decide) wc (by omega) hw4 hI5.went.2 h44
        rw[if_neg (by decide)]at hC44
        have hc:=h44
        rw[decide_eq_false_iff_not]at hc
        have hr':=His'.out
        rw[if_neg hc]at hr'
        clear hc h44
        cases h93:decide (s.data.toList[past s.data.toList q']? =some 125)with
        |true=>
         have hc:=h93
         rw[decide_eq_true_iff]at hc
         rw[if_pos hc]at hr'
         clear hc
         subst hr'
         have HI5:=Lib.hid hI5
         have Hrow5:=Lib.hid hrow5
         have HC44:=Lib.hid hC44
         have H93:=Lib.hid h93
         have Hnd:=Lib.hid hnd
         clear hI5 hrow5 hC44 h93 hnd
         go_wp2_with (fail)
         with_reducible refine(HC44.out).mono ?_
         rintro e w8 ⟨rfl,h8⟩
         have h93':=H93.out
         rw[←past_past]at h93'
         have hC93:=comes_at R g s (past s.data.toList q') 125 125 (by decide) w8 (by omega) hq' h8.2 h93'
         rw[if_pos rfl,past_past]at hC93
         have hI8:=HI5.out.to_ hR h8
         have hz8:=h8.1.size
         have hrow8:=Hrow5.out.keep h8.1.size (fun i h1 h2=>h8.1.block i h2 (by intro e;have:=Option.some.inj e;omega))
         clear h8 h93'
         have HI8:=Lib.hid hI8
         have Hrow8:=Lib.hid hrow8
         have HC93:=Lib.hid hC93
         clear hI8 hrow8 hC93
         go_wp2_with (fail)
         with_reducible refine(HC93.out).mono ?_
         rintro e w9 ⟨rfl,h9⟩
         have hI9:=HI8.out.to_ hR h9
         have hz9:=h9.1.size
         have hrow9:=Hrow8.out.keep h9.1.size (fun i h1 h2=>h9.1.block i h2 (by intro e;have:=Option.some.inj e;omega))
         clear h9
         obtain⟨a',c',rfl⟩:=hrow9.slice
         have hGw:G+1≤w9.heap.size:=by omega
         have hS:=sortRow_calls hrow9 (by omega) Hnd.out (by simp;omega)
         have y5:=hI9.var.cell 5
         have hgv9:=hI9.var.lt
         have HI9:=Lib.hid hI9
         have Hrow9:=Lib.hid hrow9
         have HS:=Lib.hid hS
         clear hI9 hrow9 hS
         go_wp2_with (fail)
         with_reducible refine(HS.out).mono ?_
         rintro e w10 ⟨rfl,hg10,hf10⟩
         have hto:=RdTo.app HI9.out.went hg10 Hrow9.out (by omega) hR
         have hI10:RdL w w10 R g s (past s.data.toList q'+1) #[.int .i64 6,.bool false,.int .i64 0,.string ⟨#[]⟩,.slice none 0 0,.slice a' (dO (acc++ [(KK,.mk k' b' n' t' l' o')])).length c']:=⟨hto,blk_app HI9.out.res hg10 Hrow9.out (by omega),blk_app HI9.out.var hg10 Hrow9.out (by omega)⟩
         clear hto hg10 y5 hgv9
         obtain⟨y0,y1,y2,y3,y4,y5⟩:=vcell hI10.var
         obtain⟨r0,r1,r2,r3,r4,r5⟩:=vcell hI10.res
         have fz:=hI10.res.frozen
         have el:(dO (acc++ [(KK,.mk k' b' n' t' l' o')])).length=acc.length+1:=by rw[dO_len];simp
         rw[el]at y5 hf10
         obtain⟨hxf,hto⟩:=hI10.leave hR (.int .i64 6) (.bool false) (.int .i64 0) (.string ⟨#[]⟩) (.slice none 0 0) (.slice a' (acc.length+1) c')
         have hff:=fresh_obj (hf10.keep (b':=w.heap.size) (w':=setMany w10 w.heap.size 0 [.int .i64 6,.bool false,.int .i64 0,.string ⟨#[]⟩,.slice none 0 0,.slice a' (acc.length+1) c']) (by omega) (by rw[setMany_size];exact Nat.le_refl _) (fun p p1 p2=>World.cell?_of_block (setMany_far _ _ _ _ _ (by omega))))
         have HI10:=Lib.hid hI10
         have Hxf:=Lib.hid hxf
         have Hto:=Lib.hid hto
         have Hff:=Lib.hid hff
         have Hf10:=Lib.hid hf10
         clear hI10 hxf hto hff hf10
         go_upto_region 14 with(fail)
         go_wp2
         rw[Exit.noGoto_ret]
         exact bodyPost_ret (results_cell6 rfl rfl Hxf.out) rfl ⟨⟨_,rfl,Hff.out⟩,Hto.out⟩
        |false=>
         have hc:=h93
         rw[decide_eq_false_iff_not]at hc
         rw[if_neg hc]at hr'
         clear hc
         subst hr'
         have HI5:=Lib.hid hI5
         have Hrow5:=Lib.hid hrow5
         have HC44:=Lib.hid hC44
         have H93:=Lib.hid h93
         clear hI5 hrow5 hC44 h93
         go_wp2_with (fail)
         with_reducible refine(HC44.out).mono ?_
         rintro e w8 ⟨rfl,h8⟩
         have h93':=H93.out
         rw[←past_past]at h93'
         have hC93:=comes_at R g s (past s.data.toList q') 125 125 (by decide) w8 (by omega) hq' h8.2 h93'
         rw[if_neg (by decide),past_past]at hC93
         have hI8:=HI5.out.to_ hR h8
         clear h8 h93'
         have HI8:=Lib.hid hI8
         have HC93:=Lib.hid hC93
         clear hI8 hC93
         go_wp2_with (fail)
         with_reducible refine(HC93.out).mono ?_
         rintro e w9 ⟨rfl,h9⟩
         have hI9:=HI8.out.to_ hR h9
         obtain⟨z0,z1,_,_,_⟩:=h9.2.cells
         clear h9
         have hW:=wrong_calls (.pointer (some ⟨R,0,none⟩)) 4 (past s.data.toList q':Nat) w9
         have HI9:=Lib.hid hI9
         have HW:=Lib.hid hW
         clear hI9 hW
         go_wp2_with (fail)
         with_reducible refine(HW.out).mono ?_
         rintro e w10 ⟨rfl,rfl⟩
         exact⟨rfl,rfl,HI9.out.went.1⟩
end Go.Proofs.YtkkbplakgldlpaaGreatDoor
