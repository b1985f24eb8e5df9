/- Parts, joined: mutator.members: an object's, if it is one and has just these fields. Condition: at most 10^8 members, 10^6 fields. The mutators' readers of del and move: what they make of their members. Condition: at most 10^6 members. A mutator's guard, and what MutCas writes: the pairs. Condition: values of a bulk of at most 10^8. What MutCas writes: the pairs. Condition: values of a bulk of at most 10^8. -/
import Derived.Test.YtkkbplakgldlpaaGreatDoorProg
import Derived.Deep.RegionHeld3
import Derived.Test.YtkkbplakgldlpaaGreatDoorKMu13
import Derived.Test.YtkkbplakgldlpaaGreatDoorKMu25
import Derived.Test.YtkkbplakgldlpaaGreatDoorKMu28
import Derived.Test.YtkkbplakgldlpaaGreatDoorKMu29
namespace Go.Proofs.YtkkbplakgldlpaaGreatDoor
open Go Go.RowKit
abbrev Tpr:TypeId:=99
theorem pr_info:(Tryz.prog.info? 99).map (fun i=>(i.zero,i.size,i.bytes))=some (some (.agg #[.string ⟨#[]⟩,.int .i64 0,.bool false,.int .i64 0,.string ⟨#[]⟩,.slice none 0 0,.slice none 0 0]),7,104):=by kernel_rfl
theorem reads_pr (w:World) (a0 a1 a2 a3 a4 a5 a6:Value):Reads (w.alloc (.cells #[a0,a1,a2,a3,a4,a5,a6] Tpr)) (w.heap.size+1) 7 (some ⟨w.heap.size,0,none⟩) 1 [a0,a1,a2,a3,a4,a5,a6]:=reads_one (Blk.new w Tpr #[a0,a1,a2,a3,a4,a5,a6])
theorem in_dP {S:Nat→Prop} {w:World} {key:ByteArray} {v:Val} {cs:List Value} (h:HoldsIn S w (dV v) cs):HoldsIn S w (dP (key,v)) (.string key::cs):=fun w'' h1 h2=>⟨[.string key],cs,rfl,⟨rfl,rfl⟩,cs, [],(List.append_nil _).symm,h w'' h1 h2,rfl⟩
def mbrB (o:List (ByteArray×Val)) (fs:List (ByteArray×Int)):Bool:=(o.all fun p=>(findF p.1 fs).isSome)&&fs.all fun f=>(findO f.1 o).isSome||decide (f.2=1)
def MbrPost (S:Nat→Prop) (k:Int) (o:List (ByteArray×Val)) (fs:List (ByteArray×Int)) (w:World) (e:Ending) (w':World):Prop:=Below w.heap.size w w'∧
 if k≠6 then e=wrongE 9 else if mbrB o fs=false then e=wrongE 10 else ∃a c,e=.returned (.slice a o.length c)∧HoldsIn (fun i=>S i∨w.heap.size≤i) w' (.row 7 (dO o)) [.slice a o.length c]
structure MB (S:Nat→Prop) (w:World) (six:Array Value) (o:List (ByteArray×Val)) (q:Nat) (wr:World) (V:Value):Prop where
 below:Below w.heap.size w wr
 box:Blk wr w.heap.size 27 six
 row:RowX S (w.heap.size+1) Tpr 7 wr (dO (o.take q)) V
theorem MB.later {S:Nat→Prop} {w wr w':World} {six:Array Value} {o:List (ByteArray×Val)} {q:Nat} {V:Value} (h:MB S w six o q wr V) (hb:Below wr.heap.size wr w'):MB S w six o q w' V:=
 ⟨h.below.trans (hb.mono h.below.size),h.box.below hb h.box.lt,h.row.below hb⟩
set_option maxRecDepth 100000 in
set_option maxHeartbeats 16000000 in
theorem mmembers_calls (S:Nat→Prop) (k':Int) (b':Bool) (n':Int) (t':ByteArray) (l':List Val) (o:List (ByteArray×Val)) (la lc oa oc) (fs:List (ByteArray×Int)) (g off fc:Nat) (w:World)
 (h:HoldsIn S w (.row 7 (dO o)) [.slice oa o.length oc]) (hF:Fld w g off fs) (hol:o.length≤100000000) (hfl:fs.length≤1000000):
 Calls Tryz.prog 94 #[.agg #[.int .i64 k',.bool b',.int .i64 n',.string t',.slice la l'.length lc,.slice oa o.length oc],.slice (some ⟨g,off,none⟩) fs.length fc] w (MbrPost S k' o fs w):=by
 obtain⟨j0,hj,hy0,hy1,hy2⟩:=info_parts pr_info
 have hY9:=fun W=>must_yes 9 W
 have hN9:=fun W=>must_no 9 W
 have hY:=fun W=>must_yes 10 W
 have hN:=fun W=>must_no 10 W
 have hI0:MB S w #[.int .i64 k',.bool b',.int .i64 n',.string t',.slice la l'.length lc,.slice oa o.length oc] o 0 (w.alloc (.cells #[.int .i64 k',.bool b',.int .i64 n',.string t',.slice la l'.length lc,.slice oa o.length oc] 27)) (.slice none 0 0):=
  ⟨(Below.refl _ _).alloc (Nat.le_refl _) _,Blk.new w _ _,by simpa[dO]using RowX.nil _ _ _ _ _⟩
 by_cases hk:k'=6
 rotate_left
 · have e1:(k'==6)=false:=by simpa using hk
   have hP:MbrPost S k' o fs w (wrongE 9) (w.alloc (.cells #[.int .i64 k',.bool b',.int .i64 n',.string t',.slice la l'.length lc,.slice oa o.length oc] 27)):=⟨hI0.below,by rw[if_pos hk]⟩
   have HP:=Lib.hid hP
   have HN9:=Lib.hid hN9
   have Hj:=Lib.hid hj
   have Hy0:=Lib.hid hy0
   have Hy1:=Lib.hid hy1
   have Hy2:=Lib.hid hy2
   have HI0:=Lib.hid hI0
   have H:=Lib.hid h
   have HF:=Lib.hid hF
   have HY9:=Lib.hid hY9
   have HY:=Lib.hid hY
   have HN:=Lib.hid hN
   clear hP hN9 hj hy0 hy1 hy2 hI0 h hF hY9 hY hN
   clear hk
   go_enter Tryz.func94,Tryz.ntmps94
   go_wp2_with (fail)
   with_reducible refine(HN9.out _).mono ?_
   rintro e w2 ⟨rfl,rfl⟩
   go_wp2
   exact⟨rfl,HP.out⟩
 subst hk
 have hFF:=fun key (W:World) (hB:Below w.heap.size w W)=>findF_calls fs g off fc key W (hF.below hB) (by omega)
 have Hj:=Lib.hid hj
 have Hy0:=Lib.hid hy0
 have Hy1:=Lib.hid hy1
 have Hy2:=Lib.hid hy2
 have HI0:=Lib.hid hI0
 have H:=Lib.hid h
 have HF:=Lib.hid hF
 have HY9:=Lib.hid hY9
 have HN9:=Lib.hid hN9
 have HY:=Lib.hid hY
 have HN:=Lib.hid hN
 have HFF:=Lib.hid hFF
 clear hj hy0 hy1 hy2 hI0 h hF hY9 hN9 hY hN hFF
 go_enter Tryz.func94,Tryz.ntmps94
 go_wp2_with (fail)
 with_reducible refine(HY9.out _).mono ?_
 rintro e w2 ⟨rfl,rfl⟩
 have y5:=HI0.out.box.cell 5
 have yl:=HI0.out.box.lt
 go_upto_region 4 with(fail)
 clear y5 yl
 go_loopw [5,21] (fun V i wr=> ∃q:Nat,i=.int .i64 q∧q≤o.length∧Hid (∀p ∈ o.take q,(findF p.1 fs).isSome=true)∧Hid (MB S w #[.int .i64 6,.bool b',.int .i64 n',.string t',.slice la l'.length lc,.slice oa o.length oc] o q wr V)) (fun _ i _=>o.length - (intOf i).toNat)
 case atStart=>exact⟨0,rfl,Nat.zero_le _,Lib.hid (by simp),HI0⟩
 case round=>
  obtain⟨q,rfl,hq,hin,hI⟩:=hrel
  clear HI0
  have hq0:(0:Int)≤q:=by omega
  by_cases hlt:q<o.length
  · obtain⟨p,hp⟩: ∃p,o[q]? =some p:=⟨_,List.getElem?_eq_getElem (by omega)⟩
    obtain⟨pkey,⟨pk,pb,pn,pt,pl,po⟩⟩:=p
    have hz:=hI.out.below.size
    obtain⟨g1,off1,rfl,hg1,pla,plc,poa,poc,hv,d0,d1,d2,d3,d4,d5,d6⟩:=memIn_at H.out hp
    have c0:=(hI.out.below.cell (p:=⟨g1,off1+q*7,none⟩) hg1).trans d0
    have c1:=(hI.out.below.cell (p:=⟨g1,off1+q*7+1,none⟩) hg1).trans d1
    have c2:=(hI.out.below.cell (p:=⟨g1,off1+q*7+2,none⟩) hg1).trans d2
    have c3:=(hI.out.below.cell (p:=⟨g1,off1+q*7+3,none⟩) hg1).trans d3
    have c4:=(hI.out.below.cell (p:=⟨g1,off1+q*7+4,none⟩) hg1).trans d4
    have c5:=(hI.out.below.cell (p:=⟨g1,off1+q*7+5,none⟩) hg1).trans d5
    have c6:=(hI.out.below.cell (p:=⟨g1,off1+q*7+6,none⟩) hg1).trans d6
    clear d0 d1 d2 d3 d4 d5 d6
    have hgr:g1<wr.heap.size:=Nat.lt_of_lt_of_le hg1 hz
    have hq1:(q:Int)<(o.length:Int):=by omega
    have hIa:=hI.out.later (alloc_below wr (.cells #[.string pkey,.int .i64 pk,.bool pb,.int .i64 pn,.string pt,.slice pla pl.length plc,.slice poa po.length poc] 63))
    have hmb:=Blk.new wr 63 #[.string pkey,.int .i64 pk,.bool pb,.int .i64 pn,.string pt,.slice pla pl.length plc,.slice poa po.length poc]
    have htk:o.take (q+1)=o.take q++ [(pkey,.mk pk pb pn pt pl po)]:=by rw[List.take_add_one,hp];simp
    have hmem:(pkey,Val.mk pk pb pn pt pl po) ∈ o:=List.mem_of_getElem? hp
    have HIa:=Lib.hid hIa
    have Hmb:=Lib.hid hmb
    have Hv:=Lib.hid hv
    have Hp:=Lib.hid hp
    have Htk:=Lib.hid htk
    have Hmem:=Lib.hid hmem
    clear hIa hmb hv hp htk hmem
    clear hI
    go_wp2_with (fail)
    with_reducible refine(HFF.out pkey _ HIa.out.below).mono ?_
    rintro e w2 ⟨hb2,rfl⟩
    have hI2:=HIa.out.later hb2
    have hm2:=Hmb.out.below hb2 Hmb.out.lt
    cases hs:(findF pkey fs).isSome with
    |false=>
     have hP:MbrPost S 6 o fs w (wrongE 10) w2:=⟨hI2.below,by
      have hb:mbrB o fs=false:=by
       unfold mbrB
       rw[Bool.and_eq_false_iff]
       left
       rw[List.all_eq_false]
       exact⟨_,Hmem.out,by rw[hs];simp⟩
      rw[if_neg (by decide),if_pos hb]⟩
     have HP:=Lib.hid hP
     have HI2:=Lib.hid hI2
     have Hm2:=Lib.hid hm2
     clear hP hI2 hm2
     clear hs hin
     go_wp2_with (fail)
     with_reducible refine(HN.out _).mono ?_
     rintro e w3 ⟨rfl,rfl⟩
     go_wp2
     exact⟨rfl,HP.out⟩
    |true=>
     have hin':Hid (∀p ∈ o.take (q+1),(findF p.1 fs).isSome=true):=by
      refine Lib.hid ?_
      rw[Htk.out]
      intro p hp
      rcases List.mem_append.1 hp with h|h
      · exact hin.out p h
      · obtain rfl:=List.mem_singleton.1 h
        exact hs
     obtain⟨aV,cV,rfl⟩:=hI2.row.slice
     have hdl:(dO (o.take q)).length=q:=by rw[dO_len,List.length_take];omega
     have m0:=hm2.cell 0
     have m1:=hm2.cell 1
     have m2:=hm2.cell 2
     have m3:=hm2.cell 3
     have m4:=hm2.cell 4
     have m5:=hm2.cell 5
     have m6:=hm2.cell 6
     have ml:=hm2.lt
     have hw8:=alloc_below w2 (.cells #[.string pkey,.int .i64 pk,.bool pb,.int .i64 pn,.string pt,.slice pla pl.length plc,.slice poa po.length poc] Tpr)
     have hbw8:=hI2.below.trans (hw8.mono hI2.below.size)
     have hrow8:=hI2.row.below hw8
     have hxi:=((in_dP (key:=pkey) Hv.out).mono (T:=fun i=>S i∧(Value.slice aV (dO (o.take q)).length cV).ownBlock≠some i) (fun i h0 hi=>⟨hi,fun e=>by have:=(hI2.row.base i e).1;omega⟩)).below hbw8
     have hsz2:=hI2.below.size
     have hlt2:=hI2.box.lt
     have hLo:Hid ((dO (o.take q)).length+1≤maxLen∧((dO (o.take q)).length+1)*104≤140737488355328):=by rw[hdl];exact⟨by simp only[maxLen];omega,by omega⟩
     have HI2:=Lib.hid hI2
     have Hm2:=Lib.hid hm2
     have Hw8:=Lib.hid hw8
     have Hbw8:=Lib.hid hbw8
     have Hrow8:=Lib.hid hrow8
     have Hxi:=Lib.hid hxi
     clear hI2 hm2 hw8 hbw8 hrow8 hxi
     clear hs hin hdl c0 c1 c2 c3 c4 c5 c6
     go_wp2_with (fail)
     with_reducible refine(HY.out _).mono ?_
     rintro e w3 ⟨rfl,rfl⟩
     go_wp2_with (at_builtin;refine wpList_append_X rfl (.tmp 34) (.tmp 40) 91 rfl Tryz.underlying91 Hj.out Hy0.out Hy1.out Hy2.out rfl (by omega) rfl Hrow8.out (Nat.le_trans hlt2 (by simp)) (dP_cells _) Hxi.out rfl (reads_pr _ _ _ _ _ _ _ _) hLo.out.1 hLo.out.2 ?_;intro V6 w6 hrow6 hg6 hat6)
     have HN:Hid (MB S w #[.int .i64 6,.bool b',.int .i64 n',.string t',.slice la l'.length lc,.slice (some ⟨g1,off1,none⟩) o.length oc] o (q+1) w6 V6):=Lib.hid ⟨Hbw8.out.grown hg6 (Nat.le_trans hsz2 (by simp)) (fun k hk=>Nat.le_trans (Nat.le_succ _) (Hrow8.out.base k hk).1),(HI2.out.box.below Hw8.out hlt2).grown hg6 (fun e=>by have:=(Hrow8.out.base _ e.symm).1;omega),by
      have e:dO (o.take q)++ [dP (pkey,.mk pk pb pn pt pl po)]=dO (o.take (q+1)):=by rw[Htk.out,dO_map,dO_map];simp
      rw[←e];exact hrow6⟩
     clear hrow6 hg6 hat6
     go_wp2
     go_roundw
     case rel=>exact⟨q+1,by go_num,by omega,hin',HN⟩
     case measure=>simp only[intOf];omega
  · obtain rfl:q=o.length:=by omega
    have hall: ∀p ∈ o,(findF p.1 fs).isSome=true:=by
     have:=hin.out
     rwa [List.take_length]at this
    obtain⟨hi1,hi2,hi3⟩:=hI.out
    rw[List.take_length]at hi3
    obtain⟨aV,cV,rfl⟩:=hi3.slice_n (dO_len o)
    have hJ0:Below w.heap.size w wr∧RowX S (w.heap.size+1) Tpr 7 wr (dO o) (.slice aV o.length cV):=⟨hi1,hi3⟩
    clear hi1 hi2 hi3 hI hin
    have HJ0:=Lib.hid hJ0
    have Hall:=Lib.hid hall
    clear hJ0 hall
    go_upto_region 10 with(fail)
    go_wp2_with (fail)
    go_loopw [45] (fun i wr=> ∃q:Nat,i=.int .i64 q∧q≤fs.length∧Hid (∀f ∈ fs.take q,((findO f.1 o).isSome||decide (f.2=1))=true)∧Hid (Below w.heap.size w wr∧RowX S (w.heap.size+1) Tpr 7 wr (dO o) (.slice aV o.length cV))) (fun i _=>fs.length - (intOf i).toNat)
    case atStart=>exact⟨0,rfl,Nat.zero_le _,Lib.hid (by simp),HJ0⟩
    case round=>
     obtain⟨q,rfl,hq,hin,hI⟩:=hrel
     clear HJ0
     have hq0:(0:Int)≤q:=by omega
     have hz:=hI.out.1.size
     by_cases hlt:q<fs.length
     · obtain⟨p,hp⟩: ∃p,fs[q]? =some p:=⟨_,List.getElem?_eq_getElem (by omega)⟩
       obtain⟨fk,fv⟩:=p
       have hFw:=HF.out.below hI.out.1
       have c0:=hFw.key q _ hp
       have c1:=hFw.has q _ hp
       have hgr:=hFw.lt
       have hq1:(q:Int)<(fs.length:Int):=by omega
       have hba:=alloc_below wr (.cells #[.string fk,.int .i64 fv] 103)
       have hI2:Below w.heap.size w (wr.alloc (.cells #[.string fk,.int .i64 fv] 103))∧RowX S (w.heap.size+1) Tpr 7 (wr.alloc (.cells #[.string fk,.int .i64 fv] 103)) (dO o) (.slice aV o.length cV):=⟨hI.out.1.trans (hba.mono hz),hI.out.2.below hba⟩
       have hmb:=Blk.new wr 103 #[.string fk,.int .i64 fv]
       have hV:=findV_calls o aV cV fk _ hI2.2.close (by omega)
       have htk:fs.take (q+1)=fs.take q++ [(fk,fv)]:=by rw[List.take_add_one,hp];simp
       have hmem:(fk,fv) ∈ fs:=List.mem_of_getElem? hp
       have HI2:=Lib.hid hI2
       have Hmb:=Lib.hid hmb
       have HV:=Lib.hid hV
       have Htk:=Lib.hid htk
       have Hmem:=Lib.hid hmem
       have HFw:=Lib.hid hFw
       clear hI2 hmb hV htk hmem hFw
       clear hI hba
       go_wp2_with (fail)
       with_reducible refine(HV.out).mono ?_
       rintro e w2 hr2
       obtain⟨hb2,xb,xn,xla,xln,xlc,xoa,xon,xoc,rfl,_⟩:=hr2.six
       have hI3:Below w.heap.size w w2∧RowX S (w.heap.size+1) Tpr 7 w2 (dO o) (.slice aV o.length cV):=⟨HI2.out.1.trans (hb2.mono HI2.out.1.size),HI2.out.2.below hb2⟩
       have hm2:=Hmb.out.below hb2 Hmb.out.lt
       have hba:=alloc_below w2 (.cells #[.int .i64 (kOf (findO fk o)),.bool xb,.int .i64 xn,.string (tOf (findO fk o)),.slice xla xln xlc,.slice xoa xon xoc] 27)
       have hI4:Below w.heap.size w (w2.alloc (.cells #[.int .i64 (kOf (findO fk o)),.bool xb,.int .i64 xn,.string (tOf (findO fk o)),.slice xla xln xlc,.slice xoa xon xoc] 27))∧RowX S (w.heap.size+1) Tpr 7 (w2.alloc (.cells #[.int .i64 (kOf (findO fk o)),.bool xb,.int .i64 xn,.string (tOf (findO fk o)),.slice xla xln xlc,.slice xoa xon xoc] 27)) (dO o) (.slice aV o.length cV):=⟨hI3.1.trans (hba.mono hI3.1.size),hI3.2.below hba⟩
       have hmc1:=hm2.cell 1
       have hml:=hm2.lt
       have hmr:=Hmb.out.lt
       have HI4:=Lib.hid hI4
       have Hm2:=Lib.hid hm2
       clear hI4 hm2
       clear hr2 hI3 hba hb2
       by_cases hok:((findO fk o).isSome||decide (fv=1))=true
       · have hin':Hid (∀f ∈ fs.take (q+1),((findO f.1 o).isSome||decide (f.2=1))=true):=by
          refine Lib.hid ?_
          rw[Htk.out]
          intro p hp
          rcases List.mem_append.1 hp with h|h
          · exact hin.out p h
          · obtain rfl:=List.mem_singleton.1 h
            exact hok
         clear hin
         cases hs:(findO fk o).isSome with
         |true=>
          clear hok
          go_wp2_with (fail)
          with_reducible refine(HY.out _).mono ?_
          rintro e w3 ⟨rfl,rfl⟩
          go_wp2
          go_roundw
          case rel=>exact⟨q+1,by go_num,by omega,hin',HI4⟩
          case measure=>simp only[intOf];omega
         |false=>
          rw[hs,Bool.false_or,decide_eq_true_eq]at hok
          subst hok
          go_wp2_with (fail)
          with_reducible refine(HY.out _).mono ?_
          rintro e w3 ⟨rfl,rfl⟩
          go_wp2
          go_roundw
          case rel=>exact⟨q+1,by go_num,by omega,hin',HI4⟩
          case measure=>simp only[intOf];omega
       · have hno:=hok
         simp only[Bool.or_eq_true,not_or,Bool.not_eq_true,decide_eq_true_eq]at hno
         obtain⟨hs,hne⟩:=hno
         have e1:(fv==1)=false:=by simpa using hne
         have hP:MbrPost S 6 o fs w (wrongE 10) (w2.alloc (.cells #[.int .i64 (kOf (findO fk o)),.bool xb,.int .i64 xn,.string (tOf (findO fk o)),.slice xla xln xlc,.slice xoa xon xoc] 27)):=⟨HI4.out.1,by
          have hb:mbrB o fs=false:=by
           unfold mbrB
           rw[Bool.and_eq_false_iff]
           right
           rw[List.all_eq_false]
           exact⟨_,Hmem.out,hok⟩
          rw[if_neg (by decide),if_pos hb]⟩
         have HP:=Lib.hid hP
         clear hP
         clear hok hne hin
         rw[hs]
         go_wp2_with (fail)
         with_reducible refine(HN.out _).mono ?_
         rintro e w3 ⟨rfl,rfl⟩
         go_wp2
         exact⟨rfl,HP.out⟩
     · obtain rfl:q=fs.length:=by omega
       have hb:mbrB o fs=true:=by
        have h2:=hin.out
        rw[List.take_length]at h2
        unfold mbrB
        rw[Bool.and_eq_true,List.all_eq_true,List.all_eq_true]
        exact⟨Hall.out,h2⟩
       have Hb:=Lib.hid hb
       clear hb
       clear hin
       go_wp2
       go_ret
       refine⟨hI.out.1, ?_⟩
       rw[if_neg (by decide),if_neg (by rw[Hb.out];simp)]
       exact⟨_,_,rfl,hI.out.2.closeIn.mono fun i _ hi=>hi.imp id fun e=>by have:=(hI.out.2.base i e).1;omega⟩
end Go.Proofs.YtkkbplakgldlpaaGreatDoor

namespace Go.Proofs.YtkkbplakgldlpaaGreatDoor
open Go Go.RowKit
abbrev Tmut:TypeId:=30
theorem results_blk {P:Program} {fn:Func} {t:Tmp} {ty tb:TypeId} {tmps:Array Value} {W:World} {R:Nat} {cs:Array Value} {d:TypeDesc} (h:fn.results= #[.cell t ty]) (hp:tmps.getD t undef=.pointer (some ⟨R,0,none⟩)) (hx:Blk W R tb cs)
 (hu:P.underlying ty=some d) (hd:d.isRow=true) (hi:(P.info? ty).map (·.size)=some cs.size):(results fn tmps).run P W=.ok (.agg cs) W:=by
 have hl:=run_loadVar_mid (P:=P) W R 0 ty cs.toList d (blk_range hx) hu hd (by simpa using hi)
 have hp':tmps[t]?.getD undef=.pointer (some ⟨R,0,none⟩):=by simpa using hp
 simp[results,h,hp',asAddr,hl]
abbrev z19:Array Value:= #[.int .i64 0,.string ⟨#[]⟩,.string ⟨#[]⟩,.int .i64 0,.bool false,.int .i64 0,.bool false,.int .i64 0,.string ⟨#[]⟩,.slice none 0 0,.slice none 0 0,.bool false,.int .i64 0,.bool false,.int .i64 0,.string ⟨#[]⟩,.slice none 0 0,.slice none 0 0,.slice none 0 0]
abbrev two19 (key dst:ByteArray):Array Value:= #[.int .i64 0,.string key,.string dst,.int .i64 0,.bool false,.int .i64 0,.bool false,.int .i64 0,.string ⟨#[]⟩,.slice none 0 0,.slice none 0 0,.bool false,.int .i64 0,.bool false,.int .i64 0,.string ⟨#[]⟩,.slice none 0 0,.slice none 0 0,.slice none 0 0]
def RdDel (o:List (ByteArray×Val)) (w:World) (e:Ending) (w':World):Prop:=Below w.heap.size w w'∧e=if kOf (findO ⟨#[107,101,121]⟩ o)=4 then .returned (.agg (two19 (tOf (findO ⟨#[107,101,121]⟩ o)) ⟨#[]⟩))else wrongE 9
structure RB (w wr:World) (cs:Array Value):Prop where
 below:Below w.heap.size w wr
 res:Blk wr w.heap.size Tmut cs
theorem RB.call {w wr w':World} {cs:Array Value} (h:RB w wr cs) (hb:Below wr.heap.size wr w'):RB w w' cs:=⟨h.below.trans (hb.mono h.below.size),h.res.below hb h.res.lt⟩
set_option maxRecDepth 100000 in
set_option maxHeartbeats 8000000 in
theorem rdel_calls (o:List (ByteArray×Val)) (a:Option Addr) (c:Nat) (w:World) (h:Holds w w.heap.size (.row 7 (dO o)) [.slice a o.length c]) (hl:o.length≤100000000):
 Calls Tryz.prog 70 #[.slice a o.length c] w (RdDel o w):=by
 have hI0:RB w (w.alloc (.cells z19 Tmut)) z19:=⟨(Below.refl _ _).alloc (Nat.le_refl _) _,Blk.new w _ _⟩
 obtain⟨wi,hwi⟩: ∃wi,w.alloc (.cells z19 Tmut)=wi:=⟨_,rfl⟩
 rw[hwi]at hI0
 have hT:=mtext_calls o a c ⟨#[107,101,121]⟩ wi ((h.below hI0.below).more hI0.below.size) hl
 have hz0:=hI0.below.size
 have HI0:=Lib.hid hI0
 have HT:=Lib.hid hT
 clear hI0 hT
 go_enter Tryz.func70,Tryz.ntmps70
 go_upto_region 1 with(fail)
 clear hwi
 go_wp2_with (fail)
 with_reducible refine(HT.out).mono ?_
 rintro e w2 ⟨hb2,rfl⟩
 have hI2:=HI0.out.call hb2
 have hP:Below w.heap.size w w2:=hI2.below
 generalize hk:kOf (findO ⟨#[107,101,121]⟩ o)=k
 generalize ht:tOf (findO ⟨#[107,101,121]⟩ o)=t
 by_cases h4:k=4
 · subst h4
   rw[if_pos rfl]
   have hP2:RdDel o w (.returned (.agg (two19 t ⟨#[]⟩))) w2→RdDel o w (.returned (.agg (two19 t ⟨#[]⟩))) w2:=id
   have HI2:=Lib.hid hI2
   have Hk:=Lib.hid hk
   have Ht:=Lib.hid ht
   have HP:=Lib.hid hP
   clear hI2 hk ht hP
   clear hb2
   dsimp only
   iterate 5 go_step
   refine wp_store_blk (cs:=z19) Tmut (.tmp 2) (.tmp 5) rfl w.heap.size 0 HI2.out.res (.agg (two19 t ⟨#[]⟩)) rfl rfl (Nat.le_of_ble_eq_true rfl) (by kernel_rfl) (by simp[Value.cells,Value.oneCell']) HI2.out.below (Nat.le_refl _) ?_
   intro w3 hx3 hb3
   have hx4:Blk w3 w.heap.size Tmut (two19 t ⟨#[]⟩):=by
    have hx:=hx3
    rw[show(Value.agg (two19 t ⟨#[]⟩)).cells=two19 t ⟨#[]⟩from by simp only[Value.cells],over_all z19 (two19 t ⟨#[]⟩) rfl]at hx
    exact hx
   clear hx3
   have Hx4:=Lib.hid hx4
   clear hx4
   repeat go_step
   refine bodyPost_ret (results_blk rfl rfl Hx4.out Tryz.underlying30 rfl (by kernel_rfl)) rfl ⟨hb3, ?_⟩
   rw[Hk.out,Ht.out,if_pos rfl]
 · rw[if_neg h4]
   have Hk:=Lib.hid hk
   have Ht:=Lib.hid ht
   have HP:=Lib.hid hP
   have H4:=Lib.hid h4
   clear hk ht hP h4
   clear hb2 hI2
   go_wp2
   refine⟨rfl,HP.out, ?_⟩
   rw[Hk.out,if_neg H4.out]
end Go.Proofs.YtkkbplakgldlpaaGreatDoor

namespace Go.Proofs.YtkkbplakgldlpaaGreatDoor
open Go Go.RowKit
abbrev Tpair:TypeId:=99
theorem pair_info:(Tryz.prog.info? 99).map (fun i=>(i.zero,i.size,i.bytes))=some (some (.agg #[.string ⟨#[]⟩,.int .i64 0,.bool false,.int .i64 0,.string ⟨#[]⟩,.slice none 0 0,.slice none 0 0]),7,104):=by kernel_rfl
theorem pairs_row {b:Nat} {w:World} {o:List (ByteArray×Val)} {V:Value} (h:RowX (fun i=>b≤i) b Tpair 7 w (dO o) V) (ho:0<o.length):PairsAt b w o V:=by
 obtain⟨ns,h1,h2,h3⟩:=h
 rw[dO_len]at h1
 obtain⟨g,c,rfl,hg,hlt⟩:=h1.form ho
 exact⟨g,c,ns,rfl,hg,hlt,fun w'' k1 k2=>h3 w'' k1 (fun p p1 p2=>k2 p p1.1 p2),fun j u hu=>by have:=h1.cells (g:=g) rfl j u hu;rwa [add_plain',Nat.zero_add]at this⟩
theorem reads_pair (w:World) (a0 a1 a2 a3 a4 a5 a6:Value):Reads (w.alloc (.cells #[a0,a1,a2,a3,a4,a5,a6] Tpair)) (w.heap.size+1) 7 (some ⟨w.heap.size,0,none⟩) 1 [a0,a1,a2,a3,a4,a5,a6]:=reads_one (Blk.new w Tpair #[a0,a1,a2,a3,a4,a5,a6])
theorem PairsAt.keep {b:Nat} {w w':World} {o:List (ByteArray×Val)} {V:Value} (h:PairsAt b w o V) (hb:Below w.heap.size w w'):PairsAt b w' o V:=by
 obtain⟨g,c,ns,rfl,h1,h2,h3,h4⟩:=h
 exact⟨g,c,ns,rfl,h1,Nat.lt_of_lt_of_le h2 hb.size,h3.later hb,fun j u hu=>(hb.cell (p:=⟨g,j,none⟩) h2).trans (h4 j u hu)⟩
set_option maxRecDepth 100000 in
set_option maxHeartbeats 4000000 in
theorem guard_no (y0:Value) (key:ByteArray) (y2 y3 y5 y6 y7 y8 y9 y10 y11 y12 y13 y14 y15 y16 y17 y18:Value) (w:World) (was:Val):
 Calls Tryz.prog 116 #[.agg #[y0,.string key,y2,y3,.bool false,y5,y6,y7,y8,y9,y10,y11,y12,y13,y14,y15,y16,y17,y18]] w (PairsPost (guardO key false was) w):=by
 have hC:=fun W=>mtextual_calls key W
 have HC:=Lib.hid hC
 clear hC
 go_enter Tryz.func116,Tryz.ntmps116
 go_wp2_with (fail)
 with_reducible refine(HC.out _).mono ?_
 rintro e w1 ⟨rfl,hb1⟩
 have hbw:=(alloc_below w _).trans (hb1.mono (by simp))
 have hz:=hbw.size
 have hx1:=(Blk.new w 30 #[y0,.string key,y2,y3,.bool false,y5,y6,y7,y8,y9,y10,y11,y12,y13,y14,y15,y16,y17,y18]).below hb1 (Blk.new _ _ _).lt
 have d4:=hx1.cell 4
 have hg4:=hx1.lt
 have Hbw:=Lib.hid hbw
 have Hx1:=Lib.hid hx1
 have Hb1:=Lib.hid hb1
 clear hbw hx1 hb1
 go_wp2
 go_ret
 exact⟨Hbw.out.alloc hz _,_,rfl,pairs_lit hz rfl (FreshA.one (fresh_tvP _ _ kKey key))⟩
set_option maxRecDepth 100000 in
set_option maxHeartbeats 4000000 in
theorem guard_yes (y0:Value) (key:ByteArray) (y2 y3:Value) (k:Int) (b:Bool) (n:Int) (t:ByteArray) (l:List Val) (o:List (ByteArray×Val)) (la oa:Option Addr) (lc oc:Nat) (y11 y12 y13 y14 y15 y16 y17 y18:Value) (w:World)
 (hV:HoldsV w w.heap.size (.mk k b n t l o) [.int .i64 k,.bool b,.int .i64 n,.string t,.slice la l.length lc,.slice oa o.length oc]) (hb:(Val.mk k b n t l o).bulk≤100000000):
 Calls Tryz.prog 116 #[.agg #[y0,.string key,y2,y3,.bool true,.int .i64 k,.bool b,.int .i64 n,.string t,.slice la l.length lc,.slice oa o.length oc,y11,y12,y13,y14,y15,y16,y17,y18]] w (PairsPost (guardO key true (.mk k b n t l o)) w):=by
 have hC:=fun W=>mtextual_calls key W
 have hD: ∀W,Below w.heap.size w W→Calls Tryz.prog 113 #[.agg #[.int .i64 k,.bool b,.int .i64 n,.string t,.slice la l.length lc,.slice oa o.length oc]] W (VCopyPost W (.mk k b n t l o)):=fun W hB=>vcopy_calls _ _ W (HoldsV.more hB.size _ _ (hV.below hB)) hb
 obtain⟨j0,hj,hy0,hy1,hy2⟩:=info_parts pair_info
 obtain⟨wi,hwi⟩: ∃wi,w.alloc (.cells #[y0,.string key,y2,y3,.bool true,.int .i64 k,.bool b,.int .i64 n,.string t,.slice la l.length lc,.slice oa o.length oc,y11,y12,y13,y14,y15,y16,y17,y18] 30)=wi:=⟨_,rfl⟩
 have hbi:Below w.heap.size w wi:=hwi▸alloc_below _ _
 have hxb:Blk wi w.heap.size 30 #[y0,.string key,y2,y3,.bool true,.int .i64 k,.bool b,.int .i64 n,.string t,.slice la l.length lc,.slice oa o.length oc,y11,y12,y13,y14,y15,y16,y17,y18]:=hwi▸Blk.new _ _ _
 have d1:=hxb.cell 1
 have hgb:=hxb.lt
 have HC:=Lib.hid hC
 have HD:=Lib.hid hD
 have Hbi:=Lib.hid hbi
 have Hxb:=Lib.hid hxb
 have Hj:=Lib.hid hj
 have Hy0:=Lib.hid hy0
 have Hy1:=Lib.hid hy1
 have Hy2:=Lib.hid hy2
 clear hC hD hbi hxb hj hy0 hy1 hy2
 clear hV
 go_enter Tryz.func116,Tryz.ntmps116
 go_upto_region 1 with(fail)
 clear hwi
 go_wp2_with (fail)
 with_reducible refine(HC.out _).mono ?_
 rintro e w1 ⟨rfl,hb1⟩
 have hx1:=Hxb.out.below hb1 hgb
 have hz1:=hb1.size
 clear d1
 obtain⟨w2,hw2⟩: ∃w2,w1.alloc (.cells #[.string kKey,.int .i64 4,.bool false,.int .i64 0,.string key,.slice none 0 0,.slice none 0 0] Tpair)=w2:=⟨_,rfl⟩
 have hb2:Below w1.heap.size w1 w2:=hw2▸alloc_below _ _
 have hx2:=hx1.below hb2 hx1.lt
 have hw12:=Hbi.out.trans (hb1.mono Hbi.out.size)
 have hrow2:RowX (fun i=>w.heap.size≤i) w.heap.size Tpair 7 w2 [dP (kKey,tv key)] (.slice (some ⟨w1.heap.size,0,none⟩) 1 1):=by
  rw[←hw2]
  exact RowX.lit (cs:= #[.string kKey,.int .i64 4,.bool false,.int .i64 0,.string key,.slice none 0 0,.slice none 0 0]) hw12.size (dP_cells _) (holdsIn_tvP _ _ kKey key)
 have hsz2:w2.heap.size=w1.heap.size+1:=by rw[←hw2];simp
 have d4:=hx2.cell 4
 have d5:=hx2.cell 5
 have d6:=hx2.cell 6
 have d7:=hx2.cell 7
 have d8:=hx2.cell 8
 have d9:=hx2.cell 9
 have d10:=hx2.cell 10
 have hgb2:=hx2.lt
 have hw22:=hw12.trans (hb2.mono hw12.size)
 have Hb1:=Lib.hid hb1
 have Hb2:=Lib.hid hb2
 have Hx1:=Lib.hid hx1
 have Hx2:=Lib.hid hx2
 have Hrow2:=Lib.hid hrow2
 have Hsz2:=Lib.hid hsz2
 have Hw12:=Lib.hid hw12
 have Hw22:=Lib.hid hw22
 clear hb1 hb2 hx1 hx2 hrow2 hsz2 hw12 hw22
 go_upto_region 3 with(fail)
 clear hw2
 go_wp2_with (fail)
 with_reducible refine(HD.out _ Hw22.out).mono ?_
 rintro e w3 ⟨⟨cs4,rfl,hl4,hf4⟩,hb3⟩
 obtain⟨la2,lc2,oa2,oc2,rfl⟩:=six_now hf4
 have hrow3:=Hrow2.out.below hb3
 have Hf4:=Lib.hid hf4
 have Hb3:=Lib.hid hb3
 have hz3:=hb3.size
 have hw32:=Hw22.out.trans (hb3.mono Hw22.out.size)
 have Hw32:=Lib.hid hw32
 have Hrow3:=Lib.hid hrow3
 clear hf4 hb3 hrow3 hl4 hw32 d4 d5 d6 d7 d8 d9 d10
 have hdO:dO (guardO key true (.mk k b n t l o))= [dP (kKey,tv key)]++ [dP (kWas,.mk k b n t l o)]:=by simp[guardO,dO]
 have HdO:=Lib.hid hdO
 have hX:HoldsIn (fun i=>w.heap.size≤i∧(Value.slice (some ⟨w1.heap.size,0,none⟩) 1 1).ownBlock≠some i) (w3.alloc (.cells #[.string kWas,.int .i64 k,.bool b,.int .i64 n,.string t,.slice la2 l.length lc2,.slice oa2 o.length oc2] Tpair)) (dP (kWas,.mk k b n t l o)) [.string kWas,.int .i64 k,.bool b,.int .i64 n,.string t,.slice la2 l.length lc2,.slice oa2 o.length oc2]:=
  (HoldsIn.of_fresh ((dP_fresh (key:=kWas) Hf4.out).later (alloc_below w3 (.cells #[.string kWas,.int .i64 k,.bool b,.int .i64 n,.string t,.slice la2 l.length lc2,.slice oa2 o.length oc2] Tpair)))).mono fun i _ hi=>by
    have hi':w2.heap.size≤i:=hi
    have h1:=Hw22.out.size
    have h2:=Hsz2.out
    exact⟨by omega,fun e=>absurd (Option.some.inj (show some w1.heap.size=some i from e)) (by omega)⟩
 have HX:=Lib.hid hX
 clear hdO hX
 go_wp2_with (at_builtin;refine wpList_append_X rfl (.tmp 11) (.tmp 16) 91 rfl Tryz.underlying91 Hj.out Hy0.out Hy1.out Hy2.out rfl (by omega) rfl (Hrow3.out.below (alloc_below _ _)) (Nat.le_trans Hw32.out.size (by simp)) (dP_cells _) HX.out rfl (reads_pair _ _ _ _ _ _ _ _) (by simp[maxLen]) (by simp) ?_;intro V6 w6 hrow6 hg6 hat6)
 rw[←HdO.out]at hrow6
 go_ret
 exact⟨below_appX (Hw32.out.alloc Hw32.out.size _) hg6 Hrow3.out (Nat.le_refl _) (Nat.le_trans Hw32.out.size (by simp)),V6,rfl,pairs_row hrow6 (by simp[guardO])⟩
end Go.Proofs.YtkkbplakgldlpaaGreatDoor

namespace Go.Proofs.YtkkbplakgldlpaaGreatDoor
open Go Go.RowKit
theorem guard_calls (y0:Value) (key:ByteArray) (y2 y3:Value) (had:Bool) (k:Int) (b:Bool) (n:Int) (t:ByteArray) (l:List Val) (o:List (ByteArray×Val)) (la oa:Option Addr) (lc oc:Nat) (y11 y12 y13 y14 y15 y16 y17 y18:Value) (w:World)
 (hV:HoldsV w w.heap.size (.mk k b n t l o) [.int .i64 k,.bool b,.int .i64 n,.string t,.slice la l.length lc,.slice oa o.length oc]) (hb:(Val.mk k b n t l o).bulk≤100000000):
 Calls Tryz.prog 116 #[.agg #[y0,.string key,y2,y3,.bool had,.int .i64 k,.bool b,.int .i64 n,.string t,.slice la l.length lc,.slice oa o.length oc,y11,y12,y13,y14,y15,y16,y17,y18]] w (PairsPost (guardO key had (.mk k b n t l o)) w):=by
 cases had with
 |false=>exact guard_no _ _ _ _ _ _ _ _ _ _ _ _ _ _ _ _ _ _ _ _
 |true=>exact guard_yes _ _ _ _ _ _ _ _ _ _ _ _ _ _ _ _ _ _ _ _ _ _ _ hV hb
theorem PairsAt.parts {b:Nat} {w:World} {o:List (ByteArray×Val)} {V:Value} (h:PairsAt b w o V):
 ∃g c ns,V=.slice (some ⟨g,0,none⟩) o.length c∧b≤g∧g<w.heap.size∧Reads w w.heap.size 7 (some ⟨g,0,none⟩) o.length ns∧HoldsInA (fun i=>b≤i) w (dO o) ns:=by
 obtain⟨g,c,ns,rfl,h1,h2,h3,h4⟩:=h
 refine⟨g,c,ns,rfl,h1,h2,⟨?_,fun _=>⟨_,rfl,h2,fun j u hu=>by rw[add_plain',Nat.zero_add];exact h4 j u hu⟩⟩,h3⟩
 rw[h3.now.len.1,cellsA_all (dO_cells o),dO_len]
theorem HoldsInA.mono {S T:Nat→Prop} {w:World} {l:List D} {cs:List Value} (h:HoldsInA S w l cs) (hST: ∀i,i<w.heap.size→S i→T i):HoldsInA T w l cs:=
 fun w'' h1 h2=>h w'' h1 fun p p1 p2=>h2 p (hST _ p2 p1) p2
theorem guard_len (key:ByteArray) (had:Bool) (was:Val):(guardO key had was).length≤2∧0<(guardO key had was).length:=by
 unfold guardO
 cases had<;>simp
theorem dO_app (a b:List (ByteArray×Val)):dO (a++b)=dO a++dO b:=by rw[dO_map,dO_map,dO_map,List.map_append]
set_option maxRecDepth 100000 in
set_option maxHeartbeats 4000000 in
theorem wcas_no (y0:Value) (key:ByteArray) (y2 y3:Value) (had:Bool) (k:Int) (b:Bool) (n:Int) (t:ByteArray) (l:List Val) (o:List (ByteArray×Val)) (la oa:Option Addr) (lc oc:Nat) (y12 y13 y14 y15 y16 y17 y18:Value) (w:World)
 (hV:HoldsV w w.heap.size (.mk k b n t l o) [.int .i64 k,.bool b,.int .i64 n,.string t,.slice la l.length lc,.slice oa o.length oc]) (hb:(Val.mk k b n t l o).bulk≤100000000):
 Calls Tryz.prog 115 #[.agg #[y0,.string key,y2,y3,.bool had,.int .i64 k,.bool b,.int .i64 n,.string t,.slice la l.length lc,.slice oa o.length oc,.bool false,y12,y13,y14,y15,y16,y17,y18]] w (PairsPost (guardO key had (.mk k b n t l o)) w):=by
 have hC:=fun W (hW:Below w.heap.size w W)=>guard_calls y0 key y2 y3 had k b n t l o la oa lc oc (.bool false) y12 y13 y14 y15 y16 y17 y18 W (HoldsV.more hW.size _ _ (hV.below hW)) hb
 obtain⟨j0,hj,hy0,hy1,hy2⟩:=info_parts pair_info
 have hxb:=Blk.new w 30 #[y0,.string key,y2,y3,.bool had,.int .i64 k,.bool b,.int .i64 n,.string t,.slice la l.length lc,.slice oa o.length oc,.bool false,y12,y13,y14,y15,y16,y17,y18]
 have hgl:=guard_len key had (.mk k b n t l o)
 have hdl:=dO_len (guardO key had (.mk k b n t l o))
 generalize guardO key had (.mk k b n t l o)=G at hC hgl hdl ⊢
 have HC:=Lib.hid hC
 have Hj:=Lib.hid hj
 have Hy0:=Lib.hid hy0
 have Hy1:=Lib.hid hy1
 have Hy2:=Lib.hid hy2
 have Hxb:=Lib.hid hxb
 have Hgl:=Lib.hid hgl
 have Hdl:=Lib.hid hdl
 clear hC hj hy0 hy1 hy2 hxb hgl hdl
 clear hV
 go_enter Tryz.func115,Tryz.ntmps115
 go_upto_region 4 with(fail)
 iterate 5 go_step
 refine wp_load_blk 30 (.tmp 1) rfl w.heap.size _ Hxb.out rfl _ Tryz.underlying30 rfl (by kernel_rfl) ?_
 go_wp2_with (fail)
 with_reducible refine(HC.out _ (alloc_below _ _)).mono ?_
 rintro e w1 ⟨hb1,V,rfl,hP⟩
 obtain⟨g,c,ns,rfl,hbg,hlt,hR,hA⟩:=hP.parts
 have hw1:=(alloc_below w (.cells #[y0,.string key,y2,y3,.bool had,.int .i64 k,.bool b,.int .i64 n,.string t,.slice la l.length lc,.slice oa o.length oc,.bool false,y12,y13,y14,y15,y16,y17,y18] 30)).trans (hb1.mono (by simp))
 have hX:HoldsInA (fun i=>w.heap.size≤i∧(Value.slice none 0 0).ownBlock≠some i) w1 (dO G) ns:=hA.mono fun i _ hi=>⟨by have:(w.alloc (.cells #[y0,.string key,y2,y3,.bool had,.int .i64 k,.bool b,.int .i64 n,.string t,.slice la l.length lc,.slice oa o.length oc,.bool false,y12,y13,y14,y15,y16,y17,y18] 30)).heap.size≤i:=hi;simp at this;omega,by simp[Value.ownBlock]⟩
 have Hb1:=Lib.hid hb1
 have HP:=Lib.hid hP
 have HR:=Lib.hid hR
 have HX:=Lib.hid hX
 have Hw1:=Lib.hid hw1
 clear hb1 hP hR hX hw1
 clear hA
 go_wp2_with (at_builtin;refine wpList_append_L rfl (.tmp 13) (.tmp 15) 91 rfl Tryz.underlying91 Hj.out Hy0.out Hy1.out Hy2.out rfl (by omega) rfl (RowX.nil (fun i=>w.heap.size≤i) w.heap.size Tpair 7 w1) Hw1.out.size (dO_cells _) HX.out rfl HR.out Hdl.out.symm (by have:=Hgl.out;simp[maxLen];omega) (by have:=Hgl.out;simp;omega) ?_;intro V6 w6 hrow6 hg6 hat6)
 rw[List.nil_append]at hrow6
 go_ret
 exact⟨below_appX Hw1.out hg6 (RowX.nil (fun i=>w.heap.size≤i) w.heap.size Tpair 7 w1) (Nat.le_refl _) Hw1.out.size,V6,rfl,pairs_row hrow6 Hgl.out.2⟩
set_option maxRecDepth 100000 in
set_option maxHeartbeats 8000000 in
theorem wcas_yes (y0:Value) (key:ByteArray) (y2 y3:Value) (had:Bool) (k:Int) (b:Bool) (n:Int) (t:ByteArray) (l:List Val) (o:List (ByteArray×Val)) (la oa:Option Addr) (lc oc:Nat) (k':Int) (b':Bool) (n':Int) (t':ByteArray) (l':List Val) (o':List (ByteArray×Val)) (la' oa':Option Addr) (lc' oc':Nat) (y18:Value) (w:World)
 (hV:HoldsV w w.heap.size (.mk k b n t l o) [.int .i64 k,.bool b,.int .i64 n,.string t,.slice la l.length lc,.slice oa o.length oc]) (hb:(Val.mk k b n t l o).bulk≤100000000) (hV':HoldsV w w.heap.size (.mk k' b' n' t' l' o') [.int .i64 k',.bool b',.int .i64 n',.string t',.slice la' l'.length lc',.slice oa' o'.length oc']) (hb':(Val.mk k' b' n' t' l' o').bulk≤100000000):
 Calls Tryz.prog 115 #[.agg #[y0,.string key,y2,y3,.bool had,.int .i64 k,.bool b,.int .i64 n,.string t,.slice la l.length lc,.slice oa o.length oc,.bool true,.int .i64 k',.bool b',.int .i64 n',.string t',.slice la' l'.length lc',.slice oa' o'.length oc',y18]] w (PairsPost ((kIs,.mk k' b' n' t' l' o')::guardO key had (.mk k b n t l o)) w):=by
 have hC:=fun W (hW:Below w.heap.size w W)=>guard_calls y0 key y2 y3 had k b n t l o la oa lc oc (.bool true) (.int .i64 k') (.bool b') (.int .i64 n') (.string t') (.slice la' l'.length lc') (.slice oa' o'.length oc') y18 W (HoldsV.more hW.size _ _ (hV.below hW)) hb
 have hD: ∀W,Below w.heap.size w W→Calls Tryz.prog 113 #[.agg #[.int .i64 k',.bool b',.int .i64 n',.string t',.slice la' l'.length lc',.slice oa' o'.length oc']] W (VCopyPost W (.mk k' b' n' t' l' o')):=fun W hB=>vcopy_calls _ _ W (HoldsV.more hB.size _ _ (hV'.below hB)) hb'
 obtain⟨j0,hj,hy0,hy1,hy2⟩:=info_parts pair_info
 obtain⟨wi,hwi⟩: ∃wi,w.alloc (.cells #[y0,.string key,y2,y3,.bool had,.int .i64 k,.bool b,.int .i64 n,.string t,.slice la l.length lc,.slice oa o.length oc,.bool true,.int .i64 k',.bool b',.int .i64 n',.string t',.slice la' l'.length lc',.slice oa' o'.length oc',y18] 30)=wi:=⟨_,rfl⟩
 have hbi:Below w.heap.size w wi:=hwi▸alloc_below _ _
 have hxb:Blk wi w.heap.size 30 #[y0,.string key,y2,y3,.bool had,.int .i64 k,.bool b,.int .i64 n,.string t,.slice la l.length lc,.slice oa o.length oc,.bool true,.int .i64 k',.bool b',.int .i64 n',.string t',.slice la' l'.length lc',.slice oa' o'.length oc',y18]:=hwi▸Blk.new _ _ _
 have d11:=hxb.cell 11
 have d12:=hxb.cell 12
 have d13:=hxb.cell 13
 have d14:=hxb.cell 14
 have d15:=hxb.cell 15
 have d16:=hxb.cell 16
 have d17:=hxb.cell 17
 have hgb:=hxb.lt
 have hgl:=guard_len key had (.mk k b n t l o)
 have hdl:=dO_len (guardO key had (.mk k b n t l o))
 have hap:=dO_app [(kIs,.mk k' b' n' t' l' o')] (guardO key had (.mk k b n t l o))
 generalize guardO key had (.mk k b n t l o)=G at hC hgl hdl hap ⊢
 have HC:=Lib.hid hC
 have HD:=Lib.hid hD
 have Hbi:=Lib.hid hbi
 have Hxb:=Lib.hid hxb
 have Hj:=Lib.hid hj
 have Hy0:=Lib.hid hy0
 have Hy1:=Lib.hid hy1
 have Hy2:=Lib.hid hy2
 have Hgl:=Lib.hid hgl
 have Hdl:=Lib.hid hdl
 have Hap:=Lib.hid hap
 clear hC hD hbi hxb hj hy0 hy1 hy2 hgl hdl hap
 clear hV hV'
 go_enter Tryz.func115,Tryz.ntmps115
 go_upto_region 3 with(fail)
 clear hwi
 go_wp2_with (fail)
 with_reducible refine(HD.out _ Hbi.out).mono ?_
 rintro e w3 ⟨⟨cs4,rfl,hl4,hf4⟩,hb3⟩
 obtain⟨la2,lc2,oa2,oc2,rfl⟩:=six_now hf4
 have hw3:=Hbi.out.trans (hb3.mono Hbi.out.size)
 have hz3:=hw3.size
 have hx3:=(Hxb.out.below hb3 hgb).alloc (.cells #[.string kIs,.int .i64 k',.bool b',.int .i64 n',.string t',.slice la2 l'.length lc2,.slice oa2 o'.length oc2] Tpair)
 have hX:HoldsIn (fun i=>w.heap.size≤i∧(Value.slice none 0 0).ownBlock≠some i) (w3.alloc (.cells #[.string kIs,.int .i64 k',.bool b',.int .i64 n',.string t',.slice la2 l'.length lc2,.slice oa2 o'.length oc2] Tpair)) (dP (kIs,.mk k' b' n' t' l' o')) [.string kIs,.int .i64 k',.bool b',.int .i64 n',.string t',.slice la2 l'.length lc2,.slice oa2 o'.length oc2]:=
  (HoldsIn.of_fresh ((dP_fresh (key:=kIs) hf4).later (alloc_below w3 (.cells #[.string kIs,.int .i64 k',.bool b',.int .i64 n',.string t',.slice la2 l'.length lc2,.slice oa2 o'.length oc2] Tpair)))).mono fun i _ hi=>by
    have hi':wi.heap.size≤i:=hi
    have h1:=Hbi.out.size
    exact⟨by omega,by simp[Value.ownBlock]⟩
 have Hb3:=Lib.hid hb3
 have Hf4:=Lib.hid hf4
 have Hw3:=Lib.hid hw3
 have Hx3:=Lib.hid hx3
 have HX:=Lib.hid hX
 clear hb3 hf4 hw3 hx3 hX
 clear d11 d12 d13 d14 d15 d16 d17 hl4
 go_wp2_with (at_builtin;apply Shut.out)
 unfold Shut
 refine wpList_append_X (V:=.slice none 0 0) rfl (.tmp 6) (.tmp 11) 91 rfl Tryz.underlying91 Hj.out Hy0.out Hy1.out Hy2.out rfl (by omega) rfl (RowX.nil (fun i=>w.heap.size≤i) w.heap.size Tpair 7 _) (Nat.le_trans Hw3.out.size (by simp)) (dP_cells _) HX.out rfl (reads_pair _ _ _ _ _ _ _ _) (by simp[maxLen]) (by simp) ?_
 intro V6 w6 hrow6 hg6 hat6
 rw[List.nil_append]at hrow6
 have hx6:=Hx3.out.grown hg6 (by simp[Value.ownBlock])
 have hw6:=below_appX (Hw3.out.alloc Hw3.out.size _) hg6 (RowX.nil (fun i=>w.heap.size≤i) w.heap.size Tpair 7 w3) (Nat.le_refl _) (Nat.le_trans Hw3.out.size (by simp))
 have hz6:=hw6.size
 have Hx6:=Lib.hid hx6
 have Hw6:=Lib.hid hw6
 have Hrow6:=Lib.hid hrow6
 clear hx6 hw6 hrow6 hg6 hat6
 go_upto_region 4 with(fail)
 iterate 5 go_step
 refine wp_load_blk 30 (.tmp 1) rfl w.heap.size _ Hx6.out rfl _ Tryz.underlying30 rfl (by kernel_rfl) ?_
 go_wp2_with (fail)
 with_reducible refine(HC.out _ Hw6.out).mono ?_
 rintro e w7 ⟨hb7,V,rfl,hP⟩
 obtain⟨g,c,ns,rfl,hbg,hlt,hR,hA⟩:=hP.parts
 have hw7:=Hw6.out.trans (hb7.mono Hw6.out.size)
 have hrow7:=Hrow6.out.below hb7
 have hX7:HoldsInA (fun i=>w.heap.size≤i∧V6.ownBlock≠some i) w7 (dO G) ns:=hA.mono fun i _ hi=>by
  have hi':w6.heap.size≤i:=hi
  exact⟨by omega,fun e=>by have:=(Hrow6.out.base i e).2;omega⟩
 have Hb7:=Lib.hid hb7
 have HP:=Lib.hid hP
 have HR:=Lib.hid hR
 have HX7:=Lib.hid hX7
 have Hw7:=Lib.hid hw7
 have Hrow7:=Lib.hid hrow7
 clear hb7 hP hR hX7 hw7 hrow7
 clear hA
 go_wp2_with (at_builtin;refine wpList_append_L rfl (.tmp 13) (.tmp 15) 91 rfl Tryz.underlying91 Hj.out Hy0.out Hy1.out Hy2.out rfl (by omega) rfl Hrow7.out Hw7.out.size (dO_cells _) HX7.out rfl HR.out Hdl.out.symm (by have:=Hgl.out;simp[maxLen];omega) (by have:=Hgl.out;simp;omega) ?_;intro V8 w8 hrow8 hg8 hat8)
 have hrow9:RowX (fun i=>w.heap.size≤i) w.heap.size Tpair 7 w8 (dO ((kIs,.mk k' b' n' t' l' o')::G)) V8:=by
  have:=Hap.out
  simp only[List.singleton_append]at this
  rw[this]
  exact hrow8
 go_ret
 exact⟨below_appX Hw7.out hg8 Hrow7.out (Nat.le_refl _) Hw7.out.size,V8,rfl,pairs_row hrow9 (by simp)⟩
end Go.Proofs.YtkkbplakgldlpaaGreatDoor
