/- Parts, joined: The mutators' reader of a sequence: what it makes of its members. Condition: at most 10^8 members; values of a bulk of at most 10^8; what reads one keeps its word. Printed by mkrds.py. -/
import Derived.Test.YtkkbplakgldlpaaGreatDoorProg
import Derived.Deep.RegionHeld3
import Derived.Test.YtkkbplakgldlpaaGreatDoorKMu33
import Derived.Test.YtkkbplakgldlpaaGreatDoorKMu36
import Derived.Test.YtkkbplakgldlpaaGreatDoorKMu40
namespace Go.Proofs.YtkkbplakgldlpaaGreatDoor
open Go Go.RowKit
theorem over_list {a0 a1 a2 a3 a4 a5 a6 a7 a8 a9 a10 a11 a12 a13 a14 a15 a16 a17 a18 x:Value}:over #[a0,a1,a2,a3,a4,a5,a6,a7,a8,a9,a10,a11,a12,a13,a14,a15,a16,a17,a18] 18 [x]= #[a0,a1,a2,a3,a4,a5,a6,a7,a8,a9,a10,a11,a12,a13,a14,a15,a16,a17,x]:=by
 simp only[over,List.setIfInBounds_toArray,List.set_cons_succ,List.set_cons_zero]
theorem over_key {a0 a1 a2 a3 a4 a5 a6 a7 a8 a9 a10 a11 a12 a13 a14 a15 a16 a17 a18 x:Value}:over #[a0,a1,a2,a3,a4,a5,a6,a7,a8,a9,a10,a11,a12,a13,a14,a15,a16,a17,a18] 1 [x]= #[a0,x,a2,a3,a4,a5,a6,a7,a8,a9,a10,a11,a12,a13,a14,a15,a16,a17,a18]:=by
 simp only[over,List.setIfInBounds_toArray,List.set_cons_succ,List.set_cons_zero]
set_option maxRecDepth 100000 in
set_option maxHeartbeats 16000000 in
theorem rseq_calls (f:Val→Int×Mut) (o:List (ByteArray×Val)) (a:Option Addr) (c A R:Nat) (w:World) (h:Holds w w.heap.size (.row 7 (dO o)) [.slice a o.length c]) (hl:o.length≤100000000) (hb: ∀key x,findO key o=some x→x.bulk≤100000000)
 (hR:w.cell? ⟨R,0,none⟩=some (.func (.func 80) #[] #[.pointer (some ⟨A,0,none⟩)])) (hRw:R<w.heap.size)
 (ih: ∀x ∈ lstV' (atO' kDo o),∀W cs,Below w.heap.size w W→Holds W W.heap.size (dV x) cs→Calls Tryz.prog 80 #[.agg cs.toArray,.pointer (some ⟨A,0,none⟩)] W (RdQ (f x) W)):
 Calls Tryz.prog 117 #[.slice a o.length c,.pointer (some ⟨R,0,none⟩)] w (RdP (argsM f 7 o) w):=by
 obtain⟨j0,hj,hy0,hy1,hy2⟩:=info_parts mut_info
 have hI0:RC w (w.heap.size+1) ((w.alloc (.cells z19 Tmut)).alloc (.cells z19 Tmut)) z19:=
  ⟨⟨((Below.refl _ _).alloc (Nat.le_refl _) _).alloc (by simp) _,(Blk.new w _ _).alloc _⟩,by simpa using Blk.new (w.alloc (.cells z19 Tmut)) Tmut z19,by omega⟩
 obtain⟨wi,hwi⟩: ∃wi,(w.alloc (.cells z19 Tmut)).alloc (.cells z19 Tmut)=wi:=⟨_,rfl⟩
 rw[hwi]at hI0
 have hin0:HoldsIn (fun i=>i<w.heap.size) w (.row 7 (dO o)) [.slice a o.length c]:=HoldsIn.of_old h (Nat.le_refl _) (Below.refl _ _)
 have hF:=findI_calls (fun i=>i<w.heap.size) o a c ⟨#[100,111]⟩ w wi hI0.rb.below hin0 hl
 have hY:=fun W=>must_yes 9 W
 have hN:=fun W=>must_no 9 W
 obtain⟨RES,hRES⟩: ∃r,argsM f 7 o=r:=⟨_,rfl⟩
 rw[hRES]
 rw[argsM_seq]at hRES
 have HI0:=Lib.hid hI0
 have HF:=Lib.hid hF
 have Hin0:=Lib.hid hin0
 have HY:=Lib.hid hY
 have HN:=Lib.hid hN
 have Hb:=Lib.hid hb
 have Hj:=Lib.hid hj
 have Hy0:=Lib.hid hy0
 have Hy1:=Lib.hid hy1
 have Hy2:=Lib.hid hy2
 have HR:=Lib.hid hR
 have HRw:=Lib.hid hRw
 clear hI0 hF hin0 hY hN hb hj hy0 hy1 hy2 hR hRw
 go_enter Tryz.func117,Tryz.ntmps117
 go_upto_region 2 with(fail)
 clear hwi
 go_wp2_with (fail)
 with_reducible refine(HF.out).mono ?_
 rintro e w2 hp
 obtain⟨hb2,dk,db,dn,dt,dl,do',dla,dlc,doa,doc,hg,rfl,hdo⟩:=hp.held
 have hg':atO' kDo o=.mk dk db dn dt dl do':=hg
 rw[hg',show kindV (Val.mk dk db dn dt dl do')=dk from rfl,show lstV' (Val.mk dk db dn dt dl do')=dl from rfl]at hRES
 rw[hg',show lstV' (Val.mk dk db dn dt dl do')=dl from rfl]at ih
 have hdlen:(Val.mk dk db dn dt dl do').bulk≤100000000:=by
  rw[←hg']
  unfold atO'
  cases hf:findO kDo o with
  |none=>decide
  |some x=>exact Hb.out kDo x hf
 generalize (findO ⟨#[100,111]⟩ o).isSome=B
 have hI2:=(HI0.out.call hb2).call (alloc_below w2 (.cells #[.int .i64 dk,.bool db,.int .i64 dn,.string dt,.slice dla dl.length dlc,.slice doa do'.length doc] 27))
 have hx2:=Blk.new w2 27 #[.int .i64 dk,.bool db,.int .i64 dn,.string dt,.slice dla dl.length dlc,.slice doa do'.length doc]
 have hord:w.heap.size+1<w2.heap.size:=Nat.lt_of_lt_of_le HI0.out.var.lt hb2.size
 obtain⟨X,hX⟩: ∃X,w2.heap.size=X:=⟨_,rfl⟩
 obtain⟨wj,hwj⟩: ∃wj,w2.alloc (.cells #[.int .i64 dk,.bool db,.int .i64 dn,.string dt,.slice dla dl.length dlc,.slice doa do'.length doc] 27)=wj:=⟨_,rfl⟩
 have hX2:wj.heap.size=X+1:=by rw[←hwj,←hX];simp
 rw[hwj]at hI2 hx2
 rw[hX]at hx2 hord
 clear hp hb2 HI0 HF hg hg' h
 by_cases h4:dk=5
 rotate_left
 · have e1:(dk==5)=false:=by simpa using h4
   rw[if_pos h4]at hRES
   have hP:=RdP.no (r:=RES) (c:=9) (by rw[←hRES]) (by omega) hI2.rb.below
   have x0:=hx2.cell 0
   have xl:=hx2.lt
   have HP:=Lib.hid hP
   clear hP
   clear h4 hI2 hRES
   go_upto_region 3 with(fail)
   clear hwj
   go_wp2_with (fail)
   with_reducible refine(HN.out _).mono ?_
   rintro e w3 ⟨rfl,rfl⟩
   go_wp2
   exact⟨rfl,HP.out⟩
 subst h4
 have x0:=hx2.cell 0
 have x4:=hx2.cell 4
 have xl:=hx2.lt
 have hlb:6*dl.length≤100000000:=by have:=bulkL_len dl;simp only[Val.bulk]at hdlen;omega
 have HI2:=Lib.hid hI2
 have Hx2:=Lib.hid hx2
 have Hord:=Lib.hid hord
 have HRES:=Lib.hid hRES
 have Hdo:=Lib.hid hdo
 have HX2:=Lib.hid hX2
 clear hI2 hx2 hord hRES hdo hX2
 go_upto_region 3 with(fail)
 clear hwj
 go_wp2_with (fail)
 with_reducible refine(HY.out _).mono ?_
 rintro e w3 ⟨rfl,rfl⟩
 clear x0
 have hSI:SI w (w.heap.size+1) X #[.int .i64 5,.bool db,.int .i64 dn,.string dt,.slice dla dl.length dlc,.slice doa do'.length doc] f dl 0 w3 (.slice none 0 0):=⟨HI2.out,Hx2.out,⟨Hord.out,by have:=Hord.out;omega⟩,by
  rw[show dMs (eachM f (dl.take 0)).2= []from rfl]
  exact RowD.nil _ _ _ _⟩
 have hr0:(eachM f (dl.take 0)).1=0:=rfl
 have hRc:w3.cell? ⟨R,0,none⟩=some (.func (.func 80) #[] #[.pointer (some ⟨A,0,none⟩)]):=(HI2.out.rb.below.cell (p:=⟨R,0,none⟩) HRw.out).trans HR.out
 have HSI:=Lib.hid hSI
 have Hr0:=Lib.hid hr0
 have HRc:=Lib.hid hRc
 clear hSI hr0 hRc
 go_upto_region 4 with(fail)
 go_wp2_with (fail)
 clear x4
 go_loopw [24] (fun i wr=> ∃q:Nat,i=.int .i64 q∧q≤dl.length∧Hid ((eachM f (dl.take q)).1=0)∧ ∃V,Hid (SI w (w.heap.size+1) X #[.int .i64 5,.bool db,.int .i64 dn,.string dt,.slice dla dl.length dlc,.slice doa do'.length doc] f dl q wr V)∧Hid (wr.cell? ⟨R,0,none⟩=some (.func (.func 80) #[] #[.pointer (some ⟨A,0,none⟩)]))) (fun i _=>dl.length - (intOf i).toNat)
 case atStart=>exact⟨0,rfl,Nat.zero_le _,Hr0,_,HSI,HRc⟩
 case round=>
  obtain⟨q,rfl,hq,hr,V,hI,hRc⟩:=hrel
  clear HSI Hr0 HRc
  have hq0:(0:Int)≤q:=by omega
  by_cases hlt:q<dl.length
  · obtain⟨x,hx⟩: ∃v,dl[q]? =some v:=⟨_,List.getElem?_eq_getElem hlt⟩
    have hmem:=List.mem_of_getElem? hx
    have hih:=ih x hmem
    have htk1: ¬(f x).1≠0→(eachM f (dl.take (q+1))).1=0:=fun hc=>by
     rw[show dl.take (q+1)=dl.take q++ [x]from by rw[List.take_add_one,hx];rfl,eachM_one hr.out,if_neg hc]
    have htk: ¬(f x).1≠0→dMs (eachM f (dl.take q)).2++ [dM (f x).2]=dMs (eachM f (dl.take (q+1))).2:=fun hc=>by
     rw[show dl.take (q+1)=dl.take q++ [x]from by rw[List.take_add_one,hx];rfl,eachM_one hr.out,if_neg hc,dMs_map,dMs_map]
     simp
    obtain⟨ek,eb,en,et,el,eo⟩:=x
    have hbw:=hI.out.rc.rb.below
    have hz:=hbw.size
    have hba':=hI.out.row.base
    obtain⟨g,off,rfl,hg,ela,elc,eoa,eoc,hv,d0,d1,d2,d3,d4,d5⟩:=elIn_at (inL_row Hdo.out) hx
    have c0:=(hbw.cell (p:=⟨g,off+q*6,none⟩) hg).trans d0
    have c1:=(hbw.cell (p:=⟨g,off+q*6+1,none⟩) hg).trans d1
    have c2:=(hbw.cell (p:=⟨g,off+q*6+2,none⟩) hg).trans d2
    have c3:=(hbw.cell (p:=⟨g,off+q*6+3,none⟩) hg).trans d3
    have c4:=(hbw.cell (p:=⟨g,off+q*6+4,none⟩) hg).trans d4
    have c5:=(hbw.cell (p:=⟨g,off+q*6+5,none⟩) hg).trans d5
    have hgr:g<wr.heap.size:=by omega
    have hq1:(q:Int)<(dl.length:Int):=by omega
    have hIa:=hI.out.call (alloc_below wr (.cells #[.int .i64 ek,.bool eb,.int .i64 en,.string et,.slice ela el.length elc,.slice eoa eo.length eoc] 27))
    have heb:=Blk.new wr 27 #[.int .i64 ek,.bool eb,.int .i64 en,.string et,.slice ela el.length elc,.slice eoa eo.length eoc]
    have hRa:(wr.alloc (.cells #[.int .i64 ek,.bool eb,.int .i64 en,.string et,.slice ela el.length elc,.slice eoa eo.length eoc] 27)).cell? ⟨R,0,none⟩=some (.func (.func 80) #[] #[.pointer (some ⟨A,0,none⟩)])∧R<(wr.alloc (.cells #[.int .i64 ek,.bool eb,.int .i64 en,.string et,.slice ela el.length elc,.slice eoa eo.length eoc] 27)).heap.size:=⟨((alloc_below wr (.cells #[.int .i64 ek,.bool eb,.int .i64 en,.string et,.slice ela el.length elc,.slice eoa eo.length eoc] 27)).cell (p:=⟨R,0,none⟩) (by have:=HRw.out;show R<wr.heap.size;omega)).trans hRc.out,by have:=HRw.out;simp;omega⟩
    have hwa0:Below w.heap.size w (wr.alloc (.cells #[.int .i64 ek,.bool eb,.int .i64 en,.string et,.slice ela el.length elc,.slice eoa eo.length eoc] 27)):=hIa.rc.rb.below
    have hC: ∀W,Below (wr.alloc (.cells #[.int .i64 ek,.bool eb,.int .i64 en,.string et,.slice ela el.length elc,.slice eoa eo.length eoc] 27)).heap.size (wr.alloc (.cells #[.int .i64 ek,.bool eb,.int .i64 en,.string et,.slice ela el.length elc,.slice eoa eo.length eoc] 27)) W→Calls Tryz.prog 80 #[.agg #[.int .i64 ek,.bool eb,.int .i64 en,.string et,.slice ela el.length elc,.slice eoa eo.length eoc],.pointer (some ⟨A,0,none⟩)] W (RdQ (f (.mk ek eb en et el eo)) W):=fun W hB=>hih W [.int .i64 ek,.bool eb,.int .i64 en,.string et,.slice ela el.length elc,.slice eoa eo.length eoc] (hwa0.trans (hB.mono hwa0.size)) (hv.old_now (hwa0.trans (hB.mono hwa0.size)))
    have hS: ∀W:World,W.cell? ⟨R,0,none⟩=some (.func (.func 80) #[] #[.pointer (some ⟨A,0,none⟩)])→Blk W wr.heap.size 27 #[.int .i64 ek,.bool eb,.int .i64 en,.string et,.slice ela el.length elc,.slice eoa eo.length eoc]→(fun X=>X.cell? ⟨R,0,none⟩=some (.func (.func 80) #[] #[.pointer (some ⟨A,0,none⟩)])∧X.cell? ⟨wr.heap.size,0,none⟩=some (.int .i64 ek)∧X.cell? ⟨wr.heap.size,1,none⟩=some (.bool eb)∧X.cell? ⟨wr.heap.size,2,none⟩=some (.int .i64 en)∧X.cell? ⟨wr.heap.size,3,none⟩=some (.string et)∧X.cell? ⟨wr.heap.size,4,none⟩=some (.slice ela el.length elc)∧X.cell? ⟨wr.heap.size,5,none⟩=some (.slice eoa eo.length eoc)) W:=fun W h1 h2=>⟨h1,h2.cell 0,h2.cell 1,h2.cell 2,h2.cell 3,h2.cell 4,h2.cell 5⟩
    have hLo:(dMs (eachM f (dl.take q)).2).length+1≤maxLen∧((dMs (eachM f (dl.take q)).2).length+1)*264≤140737488355328∧X+1≤(wr.alloc (.cells #[.int .i64 ek,.bool eb,.int .i64 en,.string et,.slice ela el.length elc,.slice eoa eo.length eoc] 27)).heap.size:=by
     have h1:(dMs (eachM f (dl.take q)).2).length≤q:=by
      rw[dMs_len]
      refine Nat.le_trans eachM_len ?_
      rw[List.length_take]
      omega
     exact⟨by simp only[maxLen];omega,by omega,by have:=hI.out.box.lt;simp;omega⟩
    obtain⟨aV,cV,rfl⟩:=hI.out.row.slice
    have hgeX:X<wr.heap.size:=hI.out.box.lt
    clear d0 d1 d2 d3 d4 d5
    have Hx:=Lib.hid hx
    have Htk:=Lib.hid htk
    have Htk1:=Lib.hid htk1
    have Hv:=Lib.hid hv
    clear hx htk htk1 hv
    go_upto_region 7 with(fail)
    clear c0 c1 c2 c3 c4 c5
    generalize wr.alloc (.cells #[.int .i64 ek,.bool eb,.int .i64 en,.string et,.slice ela el.length elc,.slice eoa eo.length eoc] 27)=wa at hIa heb hRa hwa0 hC hLo ⊢
    have hS0:=hS wa hRa.1 heb
    have HIa:=Lib.hid hIa
    have Heb:=Lib.hid heb
    have HRa:=Lib.hid hRa
    have Hwa0:=Lib.hid hwa0
    have HC:=Lib.hid hC
    have HLo:=Lib.hid hLo
    have HS:=Lib.hid hS
    clear hIa heb hRa hwa0 hC hLo hS
    clear hI hRc hih hmem
    refine wp_region_held_drew (S:=(fun X=>X.cell? ⟨R,0,none⟩=some (.func (.func 80) #[] #[.pointer (some ⟨A,0,none⟩)])∧X.cell? ⟨wr.heap.size,0,none⟩=some (.int .i64 ek)∧X.cell? ⟨wr.heap.size,1,none⟩=some (.bool eb)∧X.cell? ⟨wr.heap.size,2,none⟩=some (.int .i64 en)∧X.cell? ⟨wr.heap.size,3,none⟩=some (.string et)∧X.cell? ⟨wr.heap.size,4,none⟩=some (.slice ela el.length elc)∧X.cell? ⟨wr.heap.size,5,none⟩=some (.slice eoa eo.length eoc))) (by kernel_rfl) hS0 (fun hHeld=> ?_)
    refine wpAnyH_take (i:=0) (v:= ?_) rfl (by kernel_rfl) (by kernel_rfl) (by kernel_rfl) (fun _ _ _ h=>h) (Or.inl ⟨by kernel_rfl, ?_⟩) hHeld ?_
    rotate_left
    · intro X hSw
      skip
      first|(go_simp;done)|(go_simp;with_reducible rfl)
    try simp only[Act.put,List.getElem_toArray,List.getElem_cons_zero,List.setIfInBounds_toArray,List.set_cons_zero,List.set_cons_succ]
    refine wpAnyH_take (i:=2) (v:= ?_) rfl (by kernel_rfl) (by kernel_rfl) (by kernel_rfl) (fun _ _ _ h=>h) (Or.inl ⟨by kernel_rfl, ?_⟩) hHeld ?_
    rotate_left
    · intro X hSw
      obtain⟨s,_,_,_,_,_,_⟩:=hSw
      first|(go_simp;done)|(go_simp;with_reducible rfl)
    try simp only[Act.put,List.getElem_toArray,List.getElem_cons_succ,List.getElem_cons_zero,List.setIfInBounds_toArray,List.set_cons_zero,List.set_cons_succ]
    refine wpAnyH_take (i:=3) (v:= ?_) rfl (by kernel_rfl) (by kernel_rfl) (by kernel_rfl) (fun _ _ _ h=>h) (Or.inl ⟨by kernel_rfl, ?_⟩) hHeld ?_
    rotate_left
    · intro X hSw
      obtain⟨_,s0,s1,s2,s3,s4,s5⟩:=hSw
      first|(go_simp;done)|(go_simp;with_reducible rfl)
    try simp only[Act.put,List.getElem_toArray,List.getElem_cons_succ,List.getElem_cons_zero,List.setIfInBounds_toArray,List.set_cons_zero,List.set_cons_succ]
    refine wpAnyH_ready (rs:= [1,4]) (by kernel_rfl) (by simp) ?_
    refine AllReadyH.cons rfl (fun K hK=> ?_) (AllReadyH.cons rfl (fun K hK=> ?_) AllReadyH.nil)
    ·
     have d18:=HIa.out.rc.var.cell 18
     go_simp
     refine hK.out _ _ hS0 (fun hHeld=> ?_)
     clear hK K
     try simp only[Act.put,List.getElem_toArray,List.getElem_cons_succ,List.getElem_cons_zero,List.setIfInBounds_toArray,List.set_cons_zero,List.set_cons_succ]
     refine wpAnyH_ready (rs:= [4]) (by kernel_rfl) (by simp) ?_
     refine AllReadyH.cons rfl (fun K hK=> ?_) AllReadyH.nil
     go_simp
     with_reducible refine(HC.out _ (Below.drew (Below.refl _ _))).mono ?_
     rintro e w4 ⟨hb4,hr4⟩
     have hbr:Below wa.heap.size wa w4:=(Below.drew (Below.refl _ _)).trans hb4
     have hI4:=HIa.out.call hbr
     have hE4:=Heb.out.below hbr Heb.out.lt
     have hR4:=(hbr.cell (p:=⟨R,0,none⟩) HRa.out.2).trans HRa.out.1
     have hRl4:R<w4.heap.size:=Nat.lt_of_lt_of_le HRa.out.2 hbr.size
     by_cases hc:(f (.mk ek eb en et el eo)).1≠0
     · rw[if_pos hc]at hr4
       obtain rfl:=hr4
       have hP:=RdP.no (r:=RES) (c:=(f (.mk ek eb en et el eo)).1) (by
        have h1:=HRES.out
        have h2:=eachM_bad Hx.out hr.out hc
        rw[if_neg (by simp),if_pos (by rw[h2];exact hc),h2]at h1
        rw[←h1]) hc hI4.rc.rb.below
       generalize (f (.mk ek eb en et el eo)).1=code at hP ⊢
       have HP:=Lib.hid hP
       clear hP
       clear hK hI4 hE4 hR4 hRl4 hc hbr hb4
       go_wp2
       exact⟨rfl,HP.out⟩
     rw[if_neg hc]at hr4
     obtain⟨ca,rfl,hf4⟩:=hr4
     have hca:ca.size=19:=by have:=hf4.now.len.1;rw[dM_cells]at this;simpa using this
     have hS4:=HS.out _ hR4 hE4
     have HI4:=Lib.hid hI4
     have HE4:=Lib.hid hE4
     have Hf4:=Lib.hid hf4
     have HR4:=Lib.hid hR4
     have Hc:=Lib.hid hc
     have Hbr:=Lib.hid hbr
     clear hI4 hE4 hf4 hR4 hc hbr
     refine hK.out _ _ hS4 (fun hHeld=> ?_)
     clear hK K hb4
     try simp only[Act.put,List.getElem_toArray,List.getElem_cons_succ,List.getElem_cons_zero,List.setIfInBounds_toArray,List.set_cons_zero,List.set_cons_succ]
     refine wpAnyH_ready (rs:= [5]) (by kernel_rfl) (by simp) ?_
     refine AllReadyH.cons rfl (fun K hK=> ?_) AllReadyH.nil
     refine wp_one (.tmp 32) rfl rfl hca ?_
     have hS5:=HS.out _ (((alloc_below w4 (.cells ca Tmut)).cell (p:=⟨R,0,none⟩) hRl4).trans HR4.out) (HE4.out.alloc (.cells ca Tmut))
     refine hK.out _ _ hS5 (fun hHeld=> ?_)
     clear hK K
     try simp only[Act.put,List.getElem_toArray,List.getElem_cons_succ,List.getElem_cons_zero,List.setIfInBounds_toArray,List.set_cons_zero,List.set_cons_succ]
     refine wpAnyH_ready (rs:= [6]) (by kernel_rfl) (by simp) ?_
     refine AllReadyH.cons rfl (fun K hK=> ?_) AllReadyH.nil
     have hI5:=HI4.out.call (alloc_below w4 (.cells ca Tmut))
     have hfe:Fresh wa.heap.size (w4.alloc (.cells ca Tmut)) (dM (f (.mk ek eb en et el eo)).2) ca.toList:=(Hf4.out.keep (b':=wa.heap.size) (Nat.le_refl _) (Nat.le_refl _) (fun _ _ _=>rfl)).later (alloc_below _ _)
     have hbe:=Hbr.out.alloc Hbr.out.size (.cells ca Tmut)
     have hRd:Reads (w4.alloc (.cells ca Tmut)) (w4.heap.size+1) 19 (some ⟨w4.heap.size,0,none⟩) 1 ca.toList:=by rw[←hca];exact reads_one (Blk.new w4 Tmut ca)
     refine step_append_D (d:=dM (f (.mk ek eb en et el eo)).2) (V:=.slice aV (dMs (eachM f (dl.take q)).2).length cV) (by rfl) (.tmp 29) (.tmp 33) 28 (by rfl) Tryz.underlying28 Hj.out Hy0.out Hy1.out Hy2.out rfl (by omega) (by rfl) HIa.out.row HLo.out.2.2 hbe (dM_cells _) hfe (by rfl) hRd HLo.out.1 HLo.out.2.1 ?_
     intro V6 w6 hrow6 hg6 hat6
     have hba:=HIa.out.row.base
     have hne:(Value.slice aV (dMs (eachM f (dl.take q)).2).length cV).ownBlock≠some (w.heap.size+1):=fun e=>by have:=hba _ e;have:=HIa.out.ge;omega
     have hneX:(Value.slice aV (dMs (eachM f (dl.take q)).2).length cV).ownBlock≠some X:=fun e=>by have:=hba _ e;omega
     have hneR:(Value.slice aV (dMs (eachM f (dl.take q)).2).length cV).ownBlock≠some w.heap.size:=fun e=>by have:=hba _ e;have:=HIa.out.ge;omega
     have hneQ:(Value.slice aV (dMs (eachM f (dl.take q)).2).length cV).ownBlock≠some R:=fun e=>by have:=hba _ e;have:=HIa.out.ge;have:=HRw.out;omega
     have hneE:(Value.slice aV (dMs (eachM f (dl.take q)).2).length cV).ownBlock≠some wr.heap.size:=fun e=>by have:=hba' _ e;omega
     have hx6:=hI5.rc.var.grown hg6 (Ne.symm hne)
     have hz6:=hI5.rc.rb.res.grown hg6 (Ne.symm hneR)
     have hb6:=hI5.box.grown hg6 (Ne.symm hneX)
     have hw6:=below_app hI5.rc.rb.below hg6 hI5.row (by have:=HIa.out.ge;omega) hI5.rc.rb.below.size
     have hR6:=(World.cell?_of_block (a:=⟨R,0,none⟩) (hg6.block R (by simp;omega) (Ne.symm hneQ))).trans (((alloc_below w4 (.cells ca Tmut)).cell (p:=⟨R,0,none⟩) hRl4).trans HR4.out)
     have hE6:=(HE4.out.alloc (.cells ca Tmut)).grown hg6 (Ne.symm hneE)
     have hS6:=HS.out _ hR6 hE6
     refine hK.out _ _ hS6 (fun hHeld=> ?_)
     clear hK K hg6 hat6 hfe hbe hI5 hne hneX hneR hneQ hneE hba
     try simp only[Act.put,List.getElem_toArray,List.getElem_cons_succ,List.getElem_cons_zero,List.setIfInBounds_toArray,List.set_cons_zero,List.set_cons_succ]
     refine wpAnyH_take (i:=7) (v:= ?_) rfl (by kernel_rfl) (by kernel_rfl) (by kernel_rfl) (fun _ _ _ h=>h) (Or.inl ⟨by kernel_rfl, ?_⟩) hHeld ?_
     rotate_left
     · intro X hSw
       skip
       first|(go_simp;done)|(go_simp;with_reducible rfl)
     try simp only[Act.put,List.getElem_toArray,List.getElem_cons_succ,List.getElem_cons_zero,List.setIfInBounds_toArray,List.set_cons_zero,List.set_cons_succ]
     refine wpAnyH_ready (rs:= [8]) (by kernel_rfl) (by simp) ?_
     refine AllReadyH.cons rfl (fun K hK=> ?_) AllReadyH.nil
     rw[Htk.out Hc.out]at hrow6
     obtain⟨a6,c6,rfl⟩:=hrow6.slice
     refine wp_store_far 28 (.tmp 35) (.tmp 34) rfl (w.heap.size+1) 18 hx6 (.slice a6 (dMs (eachM f (dl.take (q+1))).2).length c6) rfl rfl (Nat.le_of_ble_eq_true rfl) (by kernel_rfl) (by simp[Value.cells,Value.oneCell']) hw6 (Nat.le_succ _) ?_
     intro w7 hx7 hb7 hs7 hfar
     rw[show(Value.slice a6 (dMs (eachM f (dl.take (q+1))).2).length c6).cells.toList= [.slice a6 (dMs (eachM f (dl.take (q+1))).2).length c6]from by simp only[Value.cells],over_list]at hx7
     have hR7:=(World.cell?_of_block (a:=⟨R,0,none⟩) (hfar R (by have:=HRw.out;omega))).trans hR6
     have hE7:Blk w7 wr.heap.size 27 _:=(hfar wr.heap.size (by have:=HIa.out.ge;omega)).trans hE6
     have hS7:=HS.out _ hR7 hE7
     have HN:Hid (SI w (w.heap.size+1) X #[.int .i64 5,.bool db,.int .i64 dn,.string dt,.slice (some ⟨g,off,none⟩) dl.length dlc,.slice doa do'.length doc] f dl (q+1) w7 (.slice a6 (dMs (eachM f (dl.take (q+1))).2).length c6)):=Lib.hid ⟨⟨⟨hb7,(hfar w.heap.size (by omega)).trans hz6⟩,hx7,by omega⟩,(hfar X (by have:=HIa.out.ge;omega)).trans hb6,HIa.out.ge,hrow6.keep (by omega) (fun i h1 _=>hfar i (by have:=HIa.out.ge;omega))⟩
     have HR7:=Lib.hid hR7
     refine hK.out _ _ hS7 (fun hHeld=> ?_)
     clear hK K hx6 hz6 hb6 hw6 hR6 hE6 hS6 hrow6 hx7 hb7 hfar hR7 hE7 hS7 hs7
     try simp only[Act.put,List.getElem_toArray,List.getElem_cons_succ,List.getElem_cons_zero]
     refine wpAnyH_done (by kernel_rfl) ?_ _
     clear hHeld HI4 HE4 Hf4 HR4 Hbr
     go_wp2
     go_roundw
     case rel=>exact⟨q+1,by go_num,by omega,Lib.hid (Htk1.out Hc.out),_,HN,HR7⟩
     case measure=>simp only[intOf];omega
    ·
     go_simp
     with_reducible refine(HC.out _ (Below.drew (Below.refl _ _))).mono ?_
     rintro e w4 ⟨hb4,hr4⟩
     have hbr:Below wa.heap.size wa w4:=(Below.drew (Below.refl _ _)).trans hb4
     have hI4:=HIa.out.call hbr
     have hE4:=Heb.out.below hbr Heb.out.lt
     have hR4:=(hbr.cell (p:=⟨R,0,none⟩) HRa.out.2).trans HRa.out.1
     have hRl4:R<w4.heap.size:=Nat.lt_of_lt_of_le HRa.out.2 hbr.size
     by_cases hc:(f (.mk ek eb en et el eo)).1≠0
     · rw[if_pos hc]at hr4
       obtain rfl:=hr4
       have hP:=RdP.no (r:=RES) (c:=(f (.mk ek eb en et el eo)).1) (by
        have h1:=HRES.out
        have h2:=eachM_bad Hx.out hr.out hc
        rw[if_neg (by simp),if_pos (by rw[h2];exact hc),h2]at h1
        rw[←h1]) hc hI4.rc.rb.below
       generalize (f (.mk ek eb en et el eo)).1=code at hP ⊢
       have HP:=Lib.hid hP
       clear hP
       clear hK hI4 hE4 hR4 hRl4 hc hbr hb4
       go_wp2
       exact⟨rfl,HP.out⟩
     rw[if_neg hc]at hr4
     obtain⟨ca,rfl,hf4⟩:=hr4
     have hca:ca.size=19:=by have:=hf4.now.len.1;rw[dM_cells]at this;simpa using this
     have hS4:=HS.out _ hR4 hE4
     have HI4:=Lib.hid hI4
     have HE4:=Lib.hid hE4
     have Hf4:=Lib.hid hf4
     have HR4:=Lib.hid hR4
     have Hc:=Lib.hid hc
     have Hbr:=Lib.hid hbr
     clear hI4 hE4 hf4 hR4 hc hbr
     refine hK.out _ _ hS4 (fun hHeld=> ?_)
     clear hK K hb4
     try simp only[Act.put,List.getElem_toArray,List.getElem_cons_succ,List.getElem_cons_zero,List.setIfInBounds_toArray,List.set_cons_zero,List.set_cons_succ]
     refine wpAnyH_ready (rs:= [1,5]) (by kernel_rfl) (by simp) ?_
     refine AllReadyH.cons rfl (fun K hK=> ?_) (AllReadyH.cons rfl (fun K hK=> ?_) AllReadyH.nil)
     ·
      have d18:=HI4.out.rc.var.cell 18
      go_simp
      refine hK.out _ _ hS4 (fun hHeld=> ?_)
      clear hK K
      try simp only[Act.put,List.getElem_toArray,List.getElem_cons_succ,List.getElem_cons_zero,List.setIfInBounds_toArray,List.set_cons_zero,List.set_cons_succ]
      refine wpAnyH_ready (rs:= [5]) (by kernel_rfl) (by simp) ?_
      refine AllReadyH.cons rfl (fun K hK=> ?_) AllReadyH.nil
      refine wp_one (.tmp 32) rfl rfl hca ?_
      have hS5:=HS.out _ (((alloc_below w4 (.cells ca Tmut)).cell (p:=⟨R,0,none⟩) hRl4).trans HR4.out) (HE4.out.alloc (.cells ca Tmut))
      refine hK.out _ _ hS5 (fun hHeld=> ?_)
      clear hK K
      try simp only[Act.put,List.getElem_toArray,List.getElem_cons_succ,List.getElem_cons_zero,List.setIfInBounds_toArray,List.set_cons_zero,List.set_cons_succ]
      refine wpAnyH_ready (rs:= [6]) (by kernel_rfl) (by simp) ?_
      refine AllReadyH.cons rfl (fun K hK=> ?_) AllReadyH.nil
      have hI5:=HI4.out.call (alloc_below w4 (.cells ca Tmut))
      have hfe:Fresh wa.heap.size (w4.alloc (.cells ca Tmut)) (dM (f (.mk ek eb en et el eo)).2) ca.toList:=(Hf4.out.keep (b':=wa.heap.size) (Nat.le_refl _) (Nat.le_refl _) (fun _ _ _=>rfl)).later (alloc_below _ _)
      have hbe:=Hbr.out.alloc Hbr.out.size (.cells ca Tmut)
      have hRd:Reads (w4.alloc (.cells ca Tmut)) (w4.heap.size+1) 19 (some ⟨w4.heap.size,0,none⟩) 1 ca.toList:=by rw[←hca];exact reads_one (Blk.new w4 Tmut ca)
      refine step_append_D (d:=dM (f (.mk ek eb en et el eo)).2) (V:=.slice aV (dMs (eachM f (dl.take q)).2).length cV) (by rfl) (.tmp 29) (.tmp 33) 28 (by rfl) Tryz.underlying28 Hj.out Hy0.out Hy1.out Hy2.out rfl (by omega) (by rfl) HIa.out.row HLo.out.2.2 hbe (dM_cells _) hfe (by rfl) hRd HLo.out.1 HLo.out.2.1 ?_
      intro V6 w6 hrow6 hg6 hat6
      have hba:=HIa.out.row.base
      have hne:(Value.slice aV (dMs (eachM f (dl.take q)).2).length cV).ownBlock≠some (w.heap.size+1):=fun e=>by have:=hba _ e;have:=HIa.out.ge;omega
      have hneX:(Value.slice aV (dMs (eachM f (dl.take q)).2).length cV).ownBlock≠some X:=fun e=>by have:=hba _ e;omega
      have hneR:(Value.slice aV (dMs (eachM f (dl.take q)).2).length cV).ownBlock≠some w.heap.size:=fun e=>by have:=hba _ e;have:=HIa.out.ge;omega
      have hneQ:(Value.slice aV (dMs (eachM f (dl.take q)).2).length cV).ownBlock≠some R:=fun e=>by have:=hba _ e;have:=HIa.out.ge;have:=HRw.out;omega
      have hneE:(Value.slice aV (dMs (eachM f (dl.take q)).2).length cV).ownBlock≠some wr.heap.size:=fun e=>by have:=hba' _ e;omega
      have hx6:=hI5.rc.var.grown hg6 (Ne.symm hne)
      have hz6:=hI5.rc.rb.res.grown hg6 (Ne.symm hneR)
      have hb6:=hI5.box.grown hg6 (Ne.symm hneX)
      have hw6:=below_app hI5.rc.rb.below hg6 hI5.row (by have:=HIa.out.ge;omega) hI5.rc.rb.below.size
      have hR6:=(World.cell?_of_block (a:=⟨R,0,none⟩) (hg6.block R (by simp;omega) (Ne.symm hneQ))).trans (((alloc_below w4 (.cells ca Tmut)).cell (p:=⟨R,0,none⟩) hRl4).trans HR4.out)
      have hE6:=(HE4.out.alloc (.cells ca Tmut)).grown hg6 (Ne.symm hneE)
      have hS6:=HS.out _ hR6 hE6
      refine hK.out _ _ hS6 (fun hHeld=> ?_)
      clear hK K hg6 hat6 hfe hbe hI5 hne hneX hneR hneQ hneE hba
      try simp only[Act.put,List.getElem_toArray,List.getElem_cons_succ,List.getElem_cons_zero,List.setIfInBounds_toArray,List.set_cons_zero,List.set_cons_succ]
      refine wpAnyH_take (i:=7) (v:= ?_) rfl (by kernel_rfl) (by kernel_rfl) (by kernel_rfl) (fun _ _ _ h=>h) (Or.inl ⟨by kernel_rfl, ?_⟩) hHeld ?_
      rotate_left
      · intro X hSw
        skip
        first|(go_simp;done)|(go_simp;with_reducible rfl)
      try simp only[Act.put,List.getElem_toArray,List.getElem_cons_succ,List.getElem_cons_zero,List.setIfInBounds_toArray,List.set_cons_zero,List.set_cons_succ]
      refine wpAnyH_ready (rs:= [8]) (by kernel_rfl) (by simp) ?_
      refine AllReadyH.cons rfl (fun K hK=> ?_) AllReadyH.nil
      rw[Htk.out Hc.out]at hrow6
      obtain⟨a6,c6,rfl⟩:=hrow6.slice
      refine wp_store_far 28 (.tmp 35) (.tmp 34) rfl (w.heap.size+1) 18 hx6 (.slice a6 (dMs (eachM f (dl.take (q+1))).2).length c6) rfl rfl (Nat.le_of_ble_eq_true rfl) (by kernel_rfl) (by simp[Value.cells,Value.oneCell']) hw6 (Nat.le_succ _) ?_
      intro w7 hx7 hb7 hs7 hfar
      rw[show(Value.slice a6 (dMs (eachM f (dl.take (q+1))).2).length c6).cells.toList= [.slice a6 (dMs (eachM f (dl.take (q+1))).2).length c6]from by simp only[Value.cells],over_list]at hx7
      have hR7:=(World.cell?_of_block (a:=⟨R,0,none⟩) (hfar R (by have:=HRw.out;omega))).trans hR6
      have hE7:Blk w7 wr.heap.size 27 _:=(hfar wr.heap.size (by have:=HIa.out.ge;omega)).trans hE6
      have hS7:=HS.out _ hR7 hE7
      have HN:Hid (SI w (w.heap.size+1) X #[.int .i64 5,.bool db,.int .i64 dn,.string dt,.slice (some ⟨g,off,none⟩) dl.length dlc,.slice doa do'.length doc] f dl (q+1) w7 (.slice a6 (dMs (eachM f (dl.take (q+1))).2).length c6)):=Lib.hid ⟨⟨⟨hb7,(hfar w.heap.size (by omega)).trans hz6⟩,hx7,by omega⟩,(hfar X (by have:=HIa.out.ge;omega)).trans hb6,HIa.out.ge,hrow6.keep (by omega) (fun i h1 _=>hfar i (by have:=HIa.out.ge;omega))⟩
      have HR7:=Lib.hid hR7
      refine hK.out _ _ hS7 (fun hHeld=> ?_)
      clear hK K hx6 hz6 hb6 hw6 hR6 hE6 hS6 hrow6 hx7 hb7 hfar hR7 hE7 hS7 hs7
      try simp only[Act.put,List.getElem_toArray,List.getElem_cons_succ,List.getElem_cons_zero]
      refine wpAnyH_done (by kernel_rfl) ?_ _
      clear hHeld HI4 HE4 Hf4 HR4 Hbr
      go_wp2
      go_roundw
      case rel=>exact⟨q+1,by go_num,by omega,Lib.hid (Htk1.out Hc.out),_,HN,HR7⟩
      case measure=>simp only[intOf];omega
     ·
      refine wp_one (.tmp 32) rfl rfl hca ?_
      have hS5:=HS.out _ (((alloc_below w4 (.cells ca Tmut)).cell (p:=⟨R,0,none⟩) hRl4).trans HR4.out) (HE4.out.alloc (.cells ca Tmut))
      refine hK.out _ _ hS5 (fun hHeld=> ?_)
      clear hK K
      try simp only[Act.put,List.getElem_toArray,List.getElem_cons_succ,List.getElem_cons_zero,List.setIfInBounds_toArray,List.set_cons_zero,List.set_cons_succ]
      refine wpAnyH_ready (rs:= [1]) (by kernel_rfl) (by simp) ?_
      refine AllReadyH.cons rfl (fun K hK=> ?_) AllReadyH.nil
      have d18:=(HI4.out.rc.var.alloc (.cells ca Tmut)).cell 18
      go_simp
      refine hK.out _ _ hS5 (fun hHeld=> ?_)
      clear hK K
      try simp only[Act.put,List.getElem_toArray,List.getElem_cons_succ,List.getElem_cons_zero,List.setIfInBounds_toArray,List.set_cons_zero,List.set_cons_succ]
      refine wpAnyH_ready (rs:= [6]) (by kernel_rfl) (by simp) ?_
      refine AllReadyH.cons rfl (fun K hK=> ?_) AllReadyH.nil
      have hI5:=HI4.out.call (alloc_below w4 (.cells ca Tmut))
      have hfe:Fresh wa.heap.size (w4.alloc (.cells ca Tmut)) (dM (f (.mk ek eb en et el eo)).2) ca.toList:=(Hf4.out.keep (b':=wa.heap.size) (Nat.le_refl _) (Nat.le_refl _) (fun _ _ _=>rfl)).later (alloc_below _ _)
      have hbe:=Hbr.out.alloc Hbr.out.size (.cells ca Tmut)
      have hRd:Reads (w4.alloc (.cells ca Tmut)) (w4.heap.size+1) 19 (some ⟨w4.heap.size,0,none⟩) 1 ca.toList:=by rw[←hca];exact reads_one (Blk.new w4 Tmut ca)
      refine step_append_D (d:=dM (f (.mk ek eb en et el eo)).2) (V:=.slice aV (dMs (eachM f (dl.take q)).2).length cV) (by rfl) (.tmp 29) (.tmp 33) 28 (by rfl) Tryz.underlying28 Hj.out Hy0.out Hy1.out Hy2.out rfl (by omega) (by rfl) HIa.out.row HLo.out.2.2 hbe (dM_cells _) hfe (by rfl) hRd HLo.out.1 HLo.out.2.1 ?_
      intro V6 w6 hrow6 hg6 hat6
      have hba:=HIa.out.row.base
      have hne:(Value.slice aV (dMs (eachM f (dl.take q)).2).length cV).ownBlock≠some (w.heap.size+1):=fun e=>by have:=hba _ e;have:=HIa.out.ge;omega
      have hneX:(Value.slice aV (dMs (eachM f (dl.take q)).2).length cV).ownBlock≠some X:=fun e=>by have:=hba _ e;omega
      have hneR:(Value.slice aV (dMs (eachM f (dl.take q)).2).length cV).ownBlock≠some w.heap.size:=fun e=>by have:=hba _ e;have:=HIa.out.ge;omega
      have hneQ:(Value.slice aV (dMs (eachM f (dl.take q)).2).length cV).ownBlock≠some R:=fun e=>by have:=hba _ e;have:=HIa.out.ge;have:=HRw.out;omega
      have hneE:(Value.slice aV (dMs (eachM f (dl.take q)).2).length cV).ownBlock≠some wr.heap.size:=fun e=>by have:=hba' _ e;omega
      have hx6:=hI5.rc.var.grown hg6 (Ne.symm hne)
      have hz6:=hI5.rc.rb.res.grown hg6 (Ne.symm hneR)
      have hb6:=hI5.box.grown hg6 (Ne.symm hneX)
      have hw6:=below_app hI5.rc.rb.below hg6 hI5.row (by have:=HIa.out.ge;omega) hI5.rc.rb.below.size
      have hR6:=(World.cell?_of_block (a:=⟨R,0,none⟩) (hg6.block R (by simp;omega) (Ne.symm hneQ))).trans (((alloc_below w4 (.cells ca Tmut)).cell (p:=⟨R,0,none⟩) hRl4).trans HR4.out)
      have hE6:=(HE4.out.alloc (.cells ca Tmut)).grown hg6 (Ne.symm hneE)
      have hS6:=HS.out _ hR6 hE6
      refine hK.out _ _ hS6 (fun hHeld=> ?_)
      clear hK K hg6 hat6 hfe hbe hI5 hne hneX hneR hneQ hneE hba
      try simp only[Act.put,List.getElem_toArray,List.getElem_cons_succ,List.getElem_cons_zero,List.setIfInBounds_toArray,List.set_cons_zero,List.set_cons_succ]
      refine wpAnyH_take (i:=7) (v:= ?_) rfl (by kernel_rfl) (by kernel_rfl) (by kernel_rfl) (fun _ _ _ h=>h) (Or.inl ⟨by kernel_rfl, ?_⟩) hHeld ?_
      rotate_left
      · intro X hSw
        skip
        first|(go_simp;done)|(go_simp;with_reducible rfl)
      try simp only[Act.put,List.getElem_toArray,List.getElem_cons_succ,List.getElem_cons_zero,List.setIfInBounds_toArray,List.set_cons_zero,List.set_cons_succ]
      refine wpAnyH_ready (rs:= [8]) (by kernel_rfl) (by simp) ?_
      refine AllReadyH.cons rfl (fun K hK=> ?_) AllReadyH.nil
      rw[Htk.out Hc.out]at hrow6
      obtain⟨a6,c6,rfl⟩:=hrow6.slice
      refine wp_store_far 28 (.tmp 35) (.tmp 34) rfl (w.heap.size+1) 18 hx6 (.slice a6 (dMs (eachM f (dl.take (q+1))).2).length c6) rfl rfl (Nat.le_of_ble_eq_true rfl) (by kernel_rfl) (by simp[Value.cells,Value.oneCell']) hw6 (Nat.le_succ _) ?_
      intro w7 hx7 hb7 hs7 hfar
      rw[show(Value.slice a6 (dMs (eachM f (dl.take (q+1))).2).length c6).cells.toList= [.slice a6 (dMs (eachM f (dl.take (q+1))).2).length c6]from by simp only[Value.cells],over_list]at hx7
      have hR7:=(World.cell?_of_block (a:=⟨R,0,none⟩) (hfar R (by have:=HRw.out;omega))).trans hR6
      have hE7:Blk w7 wr.heap.size 27 _:=(hfar wr.heap.size (by have:=HIa.out.ge;omega)).trans hE6
      have hS7:=HS.out _ hR7 hE7
      have HN:Hid (SI w (w.heap.size+1) X #[.int .i64 5,.bool db,.int .i64 dn,.string dt,.slice (some ⟨g,off,none⟩) dl.length dlc,.slice doa do'.length doc] f dl (q+1) w7 (.slice a6 (dMs (eachM f (dl.take (q+1))).2).length c6)):=Lib.hid ⟨⟨⟨hb7,(hfar w.heap.size (by omega)).trans hz6⟩,hx7,by omega⟩,(hfar X (by have:=HIa.out.ge;omega)).trans hb6,HIa.out.ge,hrow6.keep (by omega) (fun i h1 _=>hfar i (by have:=HIa.out.ge;omega))⟩
      have HR7:=Lib.hid hR7
      refine hK.out _ _ hS7 (fun hHeld=> ?_)
      clear hK K hx6 hz6 hb6 hw6 hR6 hE6 hS6 hrow6 hx7 hb7 hfar hR7 hE7 hS7 hs7
      try simp only[Act.put,List.getElem_toArray,List.getElem_cons_succ,List.getElem_cons_zero]
      refine wpAnyH_done (by kernel_rfl) ?_ _
      clear hHeld HI4 HE4 Hf4 HR4 Hbr
      go_wp2
      go_roundw
      case rel=>exact⟨q+1,by go_num,by omega,Lib.hid (Htk1.out Hc.out),_,HN,HR7⟩
      case measure=>simp only[intOf];omega
  · obtain rfl:q=dl.length:=by omega
    have hE0:(eachM f dl).1=0:=by
     have:=hr.out
     rwa [List.take_length]at this
    have hRES':=HRES.out
    rw[if_neg (by simp),if_neg (by simpa using hE0)]at hRES'
    have hbw:=hI.out.rc.rb.below
    have hz:=hbw.size
    have hcl:=hI.out.row.close
    rw[List.take_length]at hcl
    have hIr:=hI.out.rc
    have hgeX:X<wr.heap.size:=hI.out.box.lt
    obtain⟨aV,cV,rfl⟩:=hI.out.row.slice_n (show(dMs (eachM f (dl.take dl.length)).2).length=(eachM f dl).2.length by rw[List.take_length,dMs_len])
    obtain⟨a',c',e',_,hfr,_⟩:=hcl
    rw[dMs_len]at e' hfr
    obtain⟨rfl,rfl⟩:aV=a'∧cV=c':=by simpa using e'
    have hF2:=findI_calls (fun i=>i<w.heap.size) o a c ⟨#[105,102]⟩ w wr hbw Hin0.out hl
    have hlt1:=hIr.var.lt
    have HRES:=Lib.hid hRES'
    clear hI hRc hr hRES' e'
    have HIr:=Lib.hid hIr
    have Hfr:=Lib.hid hfr
    have HF2:=Lib.hid hF2
    have Hbw:=Lib.hid hbw
    clear hIr hfr hF2 hbw
    go_upto_region 9 with(fail)
    go_wp2_with (fail)
    with_reducible refine(HF2.out).mono ?_
    rintro e w5 hp
    obtain⟨hb5,gk,gb,gn,gt,gl,go',gla,glc,goa,goc,hg,rfl,hgo⟩:=hp.held
    have hIb:=(HIr.out.call hb5).call (alloc_below w5 (.cells #[.int .i64 gk,.bool gb,.int .i64 gn,.string gt,.slice gla gl.length glc,.slice goa go'.length goc] 27))
    have hfb:=(Hfr.out.later hb5).later (alloc_below w5 (.cells #[.int .i64 gk,.bool gb,.int .i64 gn,.string gt,.slice gla gl.length glc,.slice goa go'.length goc] 27))
    have hxg:=Blk.new w5 27 #[.int .i64 gk,.bool gb,.int .i64 gn,.string gt,.slice gla gl.length glc,.slice goa go'.length goc]
    have hz5:wr.heap.size≤w5.heap.size:=hb5.size
    cases hf:findO kIf o with
    |none=>
     rw[show(none:Option Val).isSome=false from rfl]
     have hRES':=HRES.out
     rw[hf]at hRES'
     simp only at hRES'
     have HRES:=Lib.hid hRES'
     clear hRES'
     have HIb:=Lib.hid hIb
     have Hfb:=Lib.hid hfb
     clear hIb hfb
     clear hp hb5 hg hgo hxg
     dsimp only
     go_upto_region 15 with(fail)
     iterate 2 go_step
     refine wp_load_blk Tmut (.tmp 4) rfl (w.heap.size+1) _ HIb.out.var rfl _ Tryz.underlying30 rfl (by kernel_rfl) ?_
     iterate 2 go_step
     obtain⟨ca,hca⟩: ∃ca:Array Value, #[.int .i64 0,.string ⟨#[]⟩,.string ⟨#[]⟩,.int .i64 0,.bool false,.int .i64 0,.bool false,.int .i64 0,.string ⟨#[]⟩,.slice none 0 0,.slice none 0 0,.bool false,.int .i64 0,.bool false,.int .i64 0,.string ⟨#[]⟩,.slice none 0 0,.slice none 0 0,.slice aV (eachM f dl).2.length cV]=ca:=⟨_,rfl⟩
     have hsc:z19.size=ca.size:=by rw[←hca];rfl
     have hcc: ∀u ∈ ca.toList,u.oneCell'=true:=by rw[←hca];simp[Value.oneCell']
     refine wp_store_far (cs:=z19) Tmut (.tmp 3) (.tmp 62) rfl w.heap.size 0 HIb.out.rb.res (.agg ca) rfl (by rw[←hca];rfl) (by simp only[Value.cells];rw[←hsc];exact Nat.le_of_ble_eq_true rfl) (by simp only[Value.cells];rw[←hsc];kernel_rfl) (by simp only[Value.cells];exact hcc) HIb.out.rb.below (Nat.le_refl _) ?_
     intro wz hxz hbz hsz hfar
     rw[show(Value.agg ca).cells=ca from by simp only[Value.cells],over_all z19 ca hsc]at hxz
     have hfz:Fresh w.heap.size wz (.row 19 (dMs (eachM f dl).2)) [.slice aV (eachM f dl).2.length cV]:=Hfb.out.keep (b':=w.heap.size) (w':=wz) (by have:=Hord.out;omega) (by omega) fun p p1 _=>World.cell?_of_block (hfar _ (by have:=Hord.out;omega))
     have Hxz:=Lib.hid hxz
     have Hfz:=Lib.hid hfz
     have Hbz:=Lib.hid hbz
     have Hca:=Lib.hid hca
     clear hxz hfz hbz hca
     clear hfar hsc hcc
     repeat go_step
     have hf8:=RdP.yes' (r:=RES) (m:=.mk 7 nil0 nil0 0 false noV false noV (eachM f dl).2) HRES.out.symm Hbz.out (fresh_mut 7 nil0 nil0 0 false false (fresh_z6 _ _) (fresh_z6 _ _) Hfz.out)
     exact bodyPost_ret (results_blk rfl rfl Hxz.out Tryz.underlying30 rfl (by rw[←Hca.out];kernel_rfl)) rfl (by rw[←Hca.out];exact hf8)
    |some gg=>
     obtain rfl:gg=.mk gk gb gn gt gl go':=by
      rw[show(⟨#[105,102]⟩:ByteArray)=kIf from rfl,hf]at hg
      exact hg
     rw[show(some (Val.mk gk gb gn gt gl go')).isSome=true from rfl]
     have hRES':=HRES.out
     rw[hf]at hRES'
     simp only at hRES'
     unfold guardM at hRES'
     rw[show kindV (Val.mk gk gb gn gt gl go')=gk from rfl,show objV' (Val.mk gk gb gn gt gl go')=go' from rfl]at hRES'
     have hbg:=Hb.out kIf _ hf
     have hgl:7*go'.length≤100000000:=by have:=bulkO_len go';simp only[Val.bulk]at hbg;omega
     have hbw': ∀x,findO kWas go'=some x→x.bulk≤100000000:=fun x e=>by have h2:1+kWas.size+x.bulk≤bulkO go':=bulkO_mem (findO_some e);simp only[Val.bulk]at hbg;omega
     obtain⟨wk,hwk⟩: ∃wk,w5.alloc (.cells #[.int .i64 gk,.bool gb,.int .i64 gn,.string gt,.slice gla gl.length glc,.slice goa go'.length goc] 27)=wk:=⟨_,rfl⟩
     rw[hwk]at hIb hfb hxg
     have hIm:=hIb.call (alloc_below wk (.cells #[.string kKey,.int .i64 0,.string kWas,.int .i64 1] Tnd))
     have hfm:=hfb.later (alloc_below wk (.cells #[.string kKey,.int .i64 0,.string kWas,.int .i64 1] Tnd))
     have hnd:=Blk.new wk Tnd #[.string kKey,.int .i64 0,.string kWas,.int .i64 1]
     have hFd:Fld (wk.alloc (.cells #[.string kKey,.int .i64 0,.string kWas,.int .i64 1] Tnd)) wk.heap.size 0 [(kKey,0),(kWas,1)]:=by
      refine⟨hnd.lt,fun j p e=> ?_,fun j p e=> ?_⟩
      · match j,e with
        |0,e=>cases e;exact hnd.cell 0
        |1,e=>cases e;exact hnd.cell 2
        |j+2,e=>simp at e
      · match j,e with
        |0,e=>cases e;exact hnd.cell 1
        |1,e=>cases e;exact hnd.cell 3
        |j+2,e=>simp at e
     have hM:=mmembers_calls (fun i=>i<w.heap.size) gk gb gn gt gl go' gla glc goa goc [(kKey,0),(kWas,1)] wk.heap.size 0 2 (wk.alloc (.cells #[.string kKey,.int .i64 0,.string kWas,.int .i64 1] Tnd)) ((inO_row hgo).below hIm.rb.below) hFd (by omega) (by decide)
     have hlen2:([(kKey,0),(kWas,1)]:List (ByteArray×Int)).length=2:=rfl
     rw[hlen2]at hM
     rw[fit_two]at hM
     obtain⟨x0,x1,x2,x3,x4,x5⟩:=vcell hxg
     have xl:=hxg.lt
     have hsk:w5.heap.size<wk.heap.size:=xl
     have HIm:=Lib.hid hIm
     have Hfm:=Lib.hid hfm
     have HM:=Lib.hid hM
     have HRES':=Lib.hid hRES'
     have Hbw':=Lib.hid hbw'
     have Hgl:=Lib.hid hgl
     clear hIm hfm hM hRES' hbw' hgl
     clear hp hb5 hg hgo hFd hnd hIb hfb hbg hlen2
     dsimp only
     go_upto_region 11 with(fail)
     clear hwk
     go_wp2_with (fail)
     with_reducible refine(HM.out).mono ?_
     rintro e w6 ⟨hb6,hr6⟩
     have hRES':=HRES'.out
     clear HRES'
     have hs6:=hb6.size
     rw[World.size_alloc]at hs6
     have hI6:=HIm.out.call hb6
     have hf6:=Hfm.out.later hb6
     by_cases h6:gk≠6
     · rw[if_pos h6]at hr6 hRES'
       obtain rfl:=hr6
       have hP:=RdP.no (r:=RES) (c:=9) (by rw[←hRES']) (by omega) hI6.rb.below
       have HP:=Lib.hid hP
       clear hP
       clear hb6 hI6 hf6 h6
       go_wp2
       exact⟨rfl,HP.out⟩
     rw[if_neg h6]at hr6 hRES'
     by_cases hfit:fitB [kKey] [kWas] go'=false
     · rw[if_pos hfit]at hr6 hRES'
       obtain rfl:=hr6
       have hP:=RdP.no (r:=RES) (c:=10) (by rw[←hRES']) (by omega) hI6.rb.below
       have HP:=Lib.hid hP
       clear hP
       clear hb6 hI6 hf6 h6 hfit
       go_wp2
       exact⟨rfl,HP.out⟩
     rw[if_neg hfit]at hr6 hRES'
     obtain⟨a6,c6,rfl,hrow6⟩:=hr6
     have hT:=mtext_calls go' a6 c6 ⟨#[107,101,121]⟩ w6 hrow6.now (by have:=Hgl.out;omega)
     rw[World.size_alloc]at hrow6
     have HI6:=Lib.hid hI6
     have Hf6:=Lib.hid hf6
     have Hrow6:=Lib.hid hrow6
     have HT:=Lib.hid hT
     clear hI6 hf6 hrow6 hT
     clear hb6 h6 hfit
     dsimp only
     go_upto_region 12 with(fail)
     go_wp2_with (fail)
     with_reducible refine(HT.out).mono ?_
     rintro e w7 ⟨hb7,rfl⟩
     have hs7:=hb7.size
     have hI7:=HI6.out.call hb7
     have hf7:=Hf6.out.later hb7
     have hrow7:=Hrow6.out.below hb7
     rw[kOf_kind,tOf_txt,show(⟨#[107,101,121]⟩:ByteArray)=kKey from rfl]
     generalize kindV (atO' kKey go')=k at hRES' ⊢
     generalize txtV' (atO' kKey go')=key at hRES' ⊢
     by_cases h4:k=4
     rotate_left
     · rw[if_neg h4]
       rw[if_pos h4]at hRES'
       have hP:=RdP.no (r:=RES) (c:=9) (by rw[←hRES']) (by omega) hI7.rb.below
       have HP:=Lib.hid hP
       clear hP
       clear hb7 hI7 hf7 hrow7 h4
       go_wp2
       exact⟨rfl,HP.out⟩
     subst h4
     rw[if_pos rfl]
     rw[if_neg (by simp)]at hRES'
     have HI7:=Lib.hid hI7
     have Hf7:=Lib.hid hf7
     have Hrow7:=Lib.hid hrow7
     clear hI7 hf7 hrow7
     clear hb7
     dsimp only
     iterate 5 go_step
     refine wp_store_far 9 (.tmp 50) (.tmp 49) rfl (w.heap.size+1) 1 HI7.out.var (.string key) rfl rfl (Nat.le_of_ble_eq_true rfl) (by kernel_rfl) (by simp[Value.cells,Value.oneCell']) HI7.out.rb.below (Nat.le_succ _) ?_
     intro w8 hx8 hb8 hs8 hfar
     rw[show(Value.string key).cells.toList= [.string key]from by simp only[Value.cells],over_key]at hx8
     have hI8:=HI7.out.put hx8 hb8 hfar
     have hf8:Fresh (X+1) w8 (.row 19 (dMs (eachM f dl).2)) [.slice aV (eachM f dl).2.length cV]:=Hf7.out.keep (Nat.le_refl _) (by omega) fun p p1 _=>World.cell?_of_block (hfar _ (by have:=Hord.out;omega))
     have hrow8:=Hrow7.out.later (w':=w8) (by omega) fun p p1 _=>World.cell?_of_block (hfar _ (by have h0:=Hord.out;rcases p1 with p1|p1<;>omega))
     have hCw:=mcopied_calls go' a6 c6 ⟨#[119,97,115]⟩ w8 hrow8.now (by have:=Hgl.out;omega) Hbw'.out
     have hge8:X+1≤w8.heap.size:=by omega
     have hN8:=fun W=>must_no 8 W
     have hY8:=fun W=>must_yes 8 W
     have k1:=hI8.var.cell 1
     have kl:=hI8.var.lt
     obtain⟨G,hG⟩: ∃B,(findO kWas go').isSome=B:=⟨_,rfl⟩
     rw[hG]at hRES'
     by_cases hk:key=⟨#[]⟩
     · subst hk
       rw[if_pos (by simp[Lib.toList_data])]at hRES'
       have hP:=RdP.no (r:=RES) (c:=8) (by rw[←hRES']) (by omega) hI8.rb.below
       have HP:=Lib.hid hP
       have HN8:=Lib.hid hN8
       clear hP hN8
       clear hI8 hf8 hrow8 hCw hx8 hb8 hfar hRES' hY8
       dsimp only
       go_upto_region 13 with(fail)
       go_wp2_with (fail)
       with_reducible refine(HN8.out _).mono ?_
       rintro e w9 ⟨rfl,rfl⟩
       go_wp2
       exact⟨rfl,HP.out⟩
     have e0:key.toList.isEmpty=false:=by
      cases e:key.toList.isEmpty with
      |false=>rfl
      |true=>exact absurd (empty_nil0 e) hk
     rw[e0,if_neg (by simp)]at hRES'
     have HRES:=Lib.hid hRES'
     have HI8:=Lib.hid hI8
     have Hf8:=Lib.hid hf8
     have HCw:=Lib.hid hCw
     have HY8:=Lib.hid hY8
     clear hI8 hf8 hCw hY8
     clear hrow8 hx8 hb8 hfar hRES' hN8 hk
     dsimp only
     go_upto_region 13 with(fail)
     go_wp2_with (fail)
     with_reducible refine(HY8.out _).mono ?_
     rintro e w9 ⟨rfl,rfl⟩
     clear k1
     go_upto_region 14 with(fail)
     go_wp2_with (fail)
     with_reducible refine(HCw.out).mono ?_
     rintro e w10 ⟨hb10,cs10,rfl,hf10⟩
     rw[show(⟨#[119,97,115]⟩:ByteArray)=kWas from rfl,atO'_z]at hf10
     obtain⟨d0,d1,d2,d3,ma,mn,mc,pa,pn,pc,rfl⟩:=six_of hf10
     have hI10:=HI8.out.call hb10
     have hg10:=Hf8.out.later hb10
     have hs10:=hb10.size
     have HI10:=Lib.hid hI10
     have Hf10:=Lib.hid hf10
     have Hg10:=Lib.hid hg10
     clear hI10 hf10 hg10
     clear hb10
     rw[hG]
     dsimp only
     iterate 14 go_step
     refine wp_store_far 27 (.tmp 60) (.tmp 58) rfl (w.heap.size+1) 5 HI10.out.var (.agg #[.int .i64 d0,.bool d1,.int .i64 d2,.string d3,.slice ma mn mc,.slice pa pn pc]) rfl rfl (Nat.le_of_ble_eq_true rfl) (by kernel_rfl) (by simp[Value.cells,Value.oneCell']) HI10.out.rb.below (Nat.le_succ _) ?_
     intro w11 hx11 hb11 hs11 hfar
     rw[show(Value.agg #[.int .i64 d0,.bool d1,.int .i64 d2,.string d3,.slice ma mn mc,.slice pa pn pc]).cells.toList= [.int .i64 d0,.bool d1,.int .i64 d2,.string d3,.slice ma mn mc,.slice pa pn pc]from by simp only[Value.cells]]at hx11
     rw[over_was]at hx11
     have hI11:=HI10.out.put hx11 hb11 hfar
     have hf11:Fresh w9.heap.size w11 (dV (atO' kWas go')) [.int .i64 d0,.bool d1,.int .i64 d2,.string d3,.slice ma mn mc,.slice pa pn pc]:=Hf10.out.keep (Nat.le_refl _) (by omega) fun p p1 _=>World.cell?_of_block (hfar _ (by have:=Hord.out;omega))
     have hg11:Fresh (X+1) w11 (.row 19 (dMs (eachM f dl).2)) [.slice aV (eachM f dl).2.length cV]:=Hg10.out.keep (Nat.le_refl _) (by omega) fun p p1 _=>World.cell?_of_block (hfar _ (by have:=Hord.out;omega))
     have HI11:=Lib.hid hI11
     have Hf11:=Lib.hid hf11
     have Hg11:=Lib.hid hg11
     clear hI11 hf11 hg11
     clear hx11 hb11 hfar
     dsimp only
     iterate 5 go_step
     refine wp_store_far 4 (.tmp 61) (.tmp 59) rfl (w.heap.size+1) 4 HI11.out.var (.bool G) rfl rfl (Nat.le_of_ble_eq_true rfl) (by kernel_rfl) (by simp[Value.cells,Value.oneCell']) HI11.out.rb.below (Nat.le_succ _) ?_
     intro w12 hx12 hb12 hs12 hfar
     rw[show(Value.bool G).cells.toList= [.bool G]from by simp only[Value.cells]]at hx12
     rw[over_bit4]at hx12
     have hI12:=HI11.out.put hx12 hb12 hfar
     have hf12:Fresh w9.heap.size w12 (dV (atO' kWas go')) [.int .i64 d0,.bool d1,.int .i64 d2,.string d3,.slice ma mn mc,.slice pa pn pc]:=Hf11.out.keep (Nat.le_refl _) (by omega) fun p p1 _=>World.cell?_of_block (hfar _ (by have:=Hord.out;omega))
     have hg12:Fresh (X+1) w12 (.row 19 (dMs (eachM f dl).2)) [.slice aV (eachM f dl).2.length cV]:=Hg11.out.keep (Nat.le_refl _) (by omega) fun p p1 _=>World.cell?_of_block (hfar _ (by have:=Hord.out;omega))
     have HI12:=Lib.hid hI12
     have Hf12:=Lib.hid hf12
     have Hg12:=Lib.hid hg12
     clear hI12 hf12 hg12
     clear hx12 hb12 hfar
     dsimp only
     go_upto_region 15 with(fail)
     iterate 2 go_step
     refine wp_load_blk Tmut (.tmp 4) rfl (w.heap.size+1) _ HI12.out.var rfl _ Tryz.underlying30 rfl (by kernel_rfl) ?_
     iterate 2 go_step
     obtain⟨ca,hca⟩: ∃ca:Array Value, #[.int .i64 0,.string key,.string ⟨#[]⟩,.int .i64 0,.bool G,.int .i64 d0,.bool d1,.int .i64 d2,.string d3,.slice ma mn mc,.slice pa pn pc,.bool false,.int .i64 0,.bool false,.int .i64 0,.string ⟨#[]⟩,.slice none 0 0,.slice none 0 0,.slice aV (eachM f dl).2.length cV]=ca:=⟨_,rfl⟩
     have hsc:z19.size=ca.size:=by rw[←hca];rfl
     have hcc: ∀u ∈ ca.toList,u.oneCell'=true:=by rw[←hca];simp[Value.oneCell']
     refine wp_store_far (cs:=z19) Tmut (.tmp 3) (.tmp 62) rfl w.heap.size 0 HI12.out.rb.res (.agg ca) rfl (by rw[←hca];rfl) (by simp only[Value.cells];rw[←hsc];exact Nat.le_of_ble_eq_true rfl) (by simp only[Value.cells];rw[←hsc];kernel_rfl) (by simp only[Value.cells];exact hcc) HI12.out.rb.below (Nat.le_refl _) ?_
     intro wz hxz hbz hsz hfar
     rw[show(Value.agg ca).cells=ca from by simp only[Value.cells],over_all z19 ca hsc]at hxz
     have hfz:Fresh w.heap.size wz (.row 19 (dMs (eachM f dl).2)) [.slice aV (eachM f dl).2.length cV]:=Hg12.out.keep (by have:=Hord.out;omega) (by omega) fun p p1 _=>World.cell?_of_block (hfar _ (by have:=Hord.out;omega))
     have hfv:Fresh w.heap.size wz (dV (atO' kWas go')) [.int .i64 d0,.bool d1,.int .i64 d2,.string d3,.slice ma mn mc,.slice pa pn pc]:=Hf12.out.keep (by have:=Hord.out;omega) (by omega) fun p p1 _=>World.cell?_of_block (hfar _ (by have:=Hord.out;omega))
     have Hxz:=Lib.hid hxz
     have Hfz:=Lib.hid hfz
     have Hfv:=Lib.hid hfv
     have Hbz:=Lib.hid hbz
     have Hca:=Lib.hid hca
     clear hxz hfz hfv hbz hca
     clear hfar hsc hcc
     repeat go_step
     have hf8:=RdP.yes' (r:=RES) (m:=.mk 7 key nil0 0 G (atO' kWas go') false noV (eachM f dl).2) HRES.out.symm Hbz.out (fresh_mut 7 key nil0 0 G false Hfv.out (fresh_z6 _ _) Hfz.out)
     exact bodyPost_ret (results_blk rfl rfl Hxz.out Tryz.underlying30 rfl (by rw[←Hca.out];kernel_rfl)) rfl (by rw[←Hca.out];exact hf8)
end Go.Proofs.YtkkbplakgldlpaaGreatDoor
