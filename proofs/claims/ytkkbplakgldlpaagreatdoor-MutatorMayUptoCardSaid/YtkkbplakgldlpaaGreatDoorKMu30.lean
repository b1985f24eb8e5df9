/- Parts, joined: parse.Parse: the value of a text, or the error and its place. Condition: a text of at most 10^8 bytes. What Exact comes to. No condition. What a pull's frame is read as. Plain. No condition. An object's numbers as the reference asks them, name by name; an op as the reference reads it. Plain. No condition. The mutator whose object a value is, or why of none. Plain. No condition. mutator.Size, and the reference's: how many mutators it is. Condition: a bulk of at most 10^8. -/
import Derived.Test.YtkkbplakgldlpaaGreatDoorProg
import Derived.Deep.RegionHeld3
import Derived.Defers
import Derived.Recover
import Derived.Laws.Pointers
import Derived.Test.YtkkbplakgldlpaaGreatDoorKMu7
import Derived.Test.YtkkbplakgldlpaaGreatDoorKMu12
import Derived.Test.YtkkbplakgldlpaaGreatDoorKMu14
import Derived.Test.YtkkbplakgldlpaaGreatDoorKMu15
import Derived.Test.YtkkbplakgldlpaaGreatDoorKMu17
import Derived.Test.YtkkbplakgldlpaaGreatDoorKMu22
import Derived.Test.YtkkbplakgldlpaaGreatDoorKMu25
import Derived.Test.YtkkbplakgldlpaaGreatDoorKMu26
namespace Go.Proofs.YtkkbplakgldlpaaGreatDoor
open Go Go.RowKit
theorem P3.grown {w W W':World} {a:Array Value} {vb vc:Value} {R:Nat} (h:P3 w W a vb vc) (t:W.grownBy W' (some R)) (hR:w.heap.size+3≤R):P3 w W' a vb vc:=
 ⟨h.below.grown t h.below.size (fun r e=>by have:=Option.some.inj e;omega),h.blkA.grown t (fun e=>by have:=Option.some.inj e;omega),h.blkB.grown t (fun e=>by have:=Option.some.inj e;omega),h.blkC.grown t (fun e=>by have:=Option.some.inj e;omega)⟩
theorem P3.new (w:World):P3 w (((w.alloc (.cells zero6 27)).alloc (.cells #[.int .i64 0] 3)).alloc (.cells #[.int .i64 0] 31)) zero6 (.int .i64 0) (.int .i64 0):=
 ⟨((alloc_below w _).alloc (by simp) _).alloc (by simp;omega) _,((Blk.new w _ _).alloc _).alloc _,by simpa using(Blk.new (w.alloc (.cells zero6 27)) 3 #[.int .i64 0]).alloc (.cells #[.int .i64 0] 31),by simpa using Blk.new ((w.alloc (.cells zero6 27)).alloc (.cells #[.int .i64 0] 3)) 31 #[.int .i64 0]⟩
theorem fresh_end {B:Nat} {w4 w6 w7:World} {R:Nat} {d:D} {cs:List Value} (hf:Fresh w4.heap.size w6 d cs) (_h6:w4.heap.size≤w6.heap.size) (h7:w6.grownBy w7 (some R)) (hR:R<w4.heap.size) (hw:B+3≤w4.heap.size) (vs:List Value) (v1 v2:Value):
 Fresh B (((setMany w7 B 0 vs).setCell ⟨B+1,0,none⟩ v1).setCell ⟨B+1+1,0,none⟩ v2).drew d cs:=by
 have z7:=h7.size
 have e9:((((setMany w7 B 0 vs).setCell ⟨B+1,0,none⟩ v1).setCell ⟨B+1+1,0,none⟩ v2).drew).heap.size=w7.heap.size:=by
  have:=setMany_size vs w7 B 0
  simpa[World.setCell]using this
 refine hf.keep (b':=B) (by omega) (by rw[e9];exact z7) (fun a p1 p2=>World.cell?_of_block ?_)
 rw[←h7.block a.block p2 (by intro e;have:=Option.some.inj e;omega)]
 show(((setMany w7 B 0 vs).setCell ⟨B+1,0,none⟩ v1).setCell ⟨B+1+1,0,none⟩ v2).heap[a.block]? =_
 exact(Below.heap_setCell _ _ _ _ (by simp;omega)).trans ((Below.heap_setCell _ _ _ _ (by simp;omega)).trans (setMany_far _ w7 B 0 a.block (by omega)))
set_option maxRecDepth 100000 in
set_option maxHeartbeats 8000000 in
theorem parse_calls (s:ByteArray) (w:World) (hT:Tabs w) (hN:NumT w) (hs:s.size≤100000000):
 Calls Tryz.prog 48 #[.string s] w (RefOut w (parseL s.data.toList)):=by
 have hmf: ∀(fn:Fn) (first cap:Array Value) (w:World),(Instr.makeFunc fn first cap).run Tryz.prog w=.ok (.func fn first cap) w:=fun _ _ _ _=>rfl
 have hP0:=P3.new w
 have hz3:(((w.alloc (.cells zero6 27)).alloc (.cells #[.int .i64 0] 3)).alloc (.cells #[.int .i64 0] 31)).heap.size=w.heap.size+3:=by simp
 obtain⟨w3,hw3⟩: ∃w3,((w.alloc (.cells zero6 27)).alloc (.cells #[.int .i64 0] 3)).alloc (.cells #[.int .i64 0] 31)=w3:=⟨_,rfl⟩
 rw[hw3]at hP0 hz3
 have hNR:=newReader_calls s w3
 have hV:=value_all w3 (hT.below hP0.below) (hN.below hP0.below) w3.heap.size (w3.heap.size+1) s hs (4*s.data.toList.length+4)
 obtain⟨R,hR⟩: ∃R,w3.heap.size=R:=⟨_,rfl⟩
 rw[hR]at hNR hV
 have hRw:w.heap.size+3≤R:=by omega
 clear hz3
 have hwi:=(within_all (4*s.data.toList.length+4)).1 s.data.toList 0 1 (Nat.zero_le _)
 obtain⟨RES,hRES⟩: ∃r,parseL s.data.toList=r:=⟨_,rfl⟩
 rw[hRES]
 unfold parseL at hRES
 have hV0:=fun(w4:World) h=>hV w4 0 1 h (Nat.zero_le _) (by rw[size_toList];omega) (by omega) (by omega)
 cases hr:valueF (4*s.data.toList.length+4) s.data.toList 0 1 with
 |bad c q=>
  rw[hr]at hRES hV0
  simp only at hRES
  subst hRES
  clear hV hr hwi
  have HP0:=Lib.hid hP0
  have HV0:=Lib.hid hV0
  have HNR:=Lib.hid hNR
  clear hP0 hV0 hNR
  go_enter_defers Tryz.func48,Tryz.ntmps48
  go_wp2_with (fail)
  with_reducible refine(HNR.out).mono ?_
  rintro e w4 ⟨rfl,hnr⟩
  have hP4:=HP0.out.later hnr.below
  have hI4:RdI w3 w4 R (R+1) s 0:=⟨hnr.below,by omega,by have:=hnr.blk;rw[hR]at this;exact this,by have:=hnr.map;rw[hR]at this;exact this⟩
  have hV4:=HV0.out w4 hI4
  have HP4:=Lib.hid hP4
  have HI4:=Lib.hid hI4
  have HV4:=Lib.hid hV4
  clear hP4 hI4 hV4
  clear hnr hw3
  go_wp2_with (fail)
  with_reducible refine(HV4.out).mono ?_
  rintro e w5 ⟨rfl,hg5⟩
  have hP5:=HP4.out.grown hg5 (by omega)
  simp only[faultE]
  go_wp2
  refine leaves_cons (f:=89) (args:= #[.pointer (some ⟨w.heap.size,0,none⟩),.pointer (some ⟨w.heap.size+1,0,none⟩),.pointer (some ⟨w.heap.size+2,0,none⟩)]) (by simp) (by simp[go_sem]) ?_
  refine(pcatch_some w w5 _ _ _ _ _ _ _ _ c (q:Nat) hP5).mono ?_
  rintro e u' w6 ⟨rfl,rfl,hP6⟩
  have d0:=hP6.blkA.cell 0
  obtain⟨d0,d1,d2,d3,d4,d5⟩:=vcell hP6.blkA
  have d6:=hP6.blkB.cell 0
  have d7:=hP6.blkC.cell 0
  simp[Leaves,settle,results,Tryz.results48,go_sem,d0,d1,d2,d3,d4,d5,d6,d7]
  exact⟨hP6.below,rfl⟩
 |ok v q=>
  rw[hr]at hRES hV0 hwi
  simp only at hRES
  obtain⟨hw1,hw2⟩:=hwi
  rw[size_toList]at hw2
  have hp:=past_size hw2
  obtain⟨kv,bv,nv,tv,lv,ov⟩:=v
  clear hV hr
  have HP0:=Lib.hid hP0
  have HV0:=Lib.hid hV0
  have HNR:=Lib.hid hNR
  have HRES:=Lib.hid hRES
  clear hP0 hV0 hNR hRES
  go_enter_defers Tryz.func48,Tryz.ntmps48
  go_wp2_with (fail)
  with_reducible refine(HNR.out).mono ?_
  rintro e w4 ⟨rfl,hnr⟩
  have hP4:=HP0.out.later hnr.below
  have hI4:RdI w3 w4 R (R+1) s 0:=⟨hnr.below,by omega,by have:=hnr.blk;rw[hR]at this;exact this,by have:=hnr.map;rw[hR]at this;exact this⟩
  have hV4:=HV0.out w4 hI4
  have hRlt:R<w4.heap.size:=Blk.lt hI4.rd
  have hz4:w.heap.size+3≤w4.heap.size:=by have:=hnr.below.size;omega
  have HP4:=Lib.hid hP4
  have HI4:=Lib.hid hI4
  have HV4:=Lib.hid hV4
  clear hP4 hI4 hV4
  clear hnr hw3 HNR HV0
  go_wp2_with (fail)
  with_reducible refine(HV4.out).mono ?_
  rintro e w5 ⟨⟨cs,rfl,hf5⟩,h5⟩
  obtain⟨la,lc,oa,oc,rfl⟩:=six_now hf5
  have hP5:=HP4.out.grown h5.1 (by omega)
  have hz5:=h5.1.size
  obtain⟨x0,x1,x2,x3,x4,x5⟩:=vcell hP5.blkA
  have fx:=hP5.blkA.frozen
  have lx:=hP5.blkA.lt
  have hP6:P3 w ((((((w5.setCell ⟨w.heap.size,0,none⟩ (.int .i64 kv)).setCell ⟨w.heap.size,1,none⟩ (.bool bv)).setCell ⟨w.heap.size,2,none⟩ (.int .i64 nv)).setCell ⟨w.heap.size,3,none⟩ (.string tv)).setCell ⟨w.heap.size,4,none⟩ (.slice la lv.length lc)).setCell ⟨w.heap.size,5,none⟩ (.slice oa ov.length oc)) #[.int .i64 kv,.bool bv,.int .i64 nv,.string tv,.slice la lv.length lc,.slice oa ov.length oc] (.int .i64 0) (.int .i64 0):=hP5.setA (.int .i64 kv) (.bool bv) (.int .i64 nv) (.string tv) (.slice la lv.length lc) (.slice oa ov.length oc)
  have h6:RdB ((((((w5.setCell ⟨w.heap.size,0,none⟩ (.int .i64 kv)).setCell ⟨w.heap.size,1,none⟩ (.bool bv)).setCell ⟨w.heap.size,2,none⟩ (.int .i64 nv)).setCell ⟨w.heap.size,3,none⟩ (.string tv)).setCell ⟨w.heap.size,4,none⟩ (.slice la lv.length lc)).setCell ⟨w.heap.size,5,none⟩ (.slice oa ov.length oc)) R (R+1) s q:=(setMany_far [.int .i64 kv,.bool bv,.int .i64 nv,.string tv,.slice la lv.length lc,.slice oa ov.length oc] w5 w.heap.size 0 R (by omega)).trans h5.2
  have hf6:Fresh w4.heap.size ((((((w5.setCell ⟨w.heap.size,0,none⟩ (.int .i64 kv)).setCell ⟨w.heap.size,1,none⟩ (.bool bv)).setCell ⟨w.heap.size,2,none⟩ (.int .i64 nv)).setCell ⟨w.heap.size,3,none⟩ (.string tv)).setCell ⟨w.heap.size,4,none⟩ (.slice la lv.length lc)).setCell ⟨w.heap.size,5,none⟩ (.slice oa ov.length oc)) (dV (.mk kv bv nv tv lv ov)) [.int .i64 kv,.bool bv,.int .i64 nv,.string tv,.slice la lv.length lc,.slice oa ov.length oc]:=hf5.keep (b':=w4.heap.size) (Nat.le_refl _) (by rw[show((((((w5.setCell ⟨w.heap.size,0,none⟩ (.int .i64 kv)).setCell ⟨w.heap.size,1,none⟩ (.bool bv)).setCell ⟨w.heap.size,2,none⟩ (.int .i64 nv)).setCell ⟨w.heap.size,3,none⟩ (.string tv)).setCell ⟨w.heap.size,4,none⟩ (.slice la lv.length lc)).setCell ⟨w.heap.size,5,none⟩ (.slice oa ov.length oc))=setMany w5 w.heap.size 0 [.int .i64 kv,.bool bv,.int .i64 nv,.string tv,.slice la lv.length lc,.slice oa ov.length oc]from rfl,setMany_size];exact Nat.le_refl _) (fun p p1 _=>World.cell?_of_block (setMany_far [.int .i64 kv,.bool bv,.int .i64 nv,.string tv,.slice la lv.length lc,.slice oa ov.length oc] w5 w.heap.size 0 p.block (by omega)))
  have HP5:=Lib.hid hP5
  have HP6:=Lib.hid hP6
  have H6:=Lib.hid h6
  have Hf6:=Lib.hid hf6
  clear hP5 hP6 h6 hf6
  clear h5 hf5
  have Hz6:Hid (w4.heap.size≤((((((w5.setCell ⟨w.heap.size,0,none⟩ (.int .i64 kv)).setCell ⟨w.heap.size,1,none⟩ (.bool bv)).setCell ⟨w.heap.size,2,none⟩ (.int .i64 nv)).setCell ⟨w.heap.size,3,none⟩ (.string tv)).setCell ⟨w.heap.size,4,none⟩ (.slice la lv.length lc)).setCell ⟨w.heap.size,5,none⟩ (.slice oa ov.length oc)).heap.size):=by show _≤_;simpa[World.setCell]using hz5
  go_wp2_with (fail)
  generalize ((((((w5.setCell ⟨w.heap.size,0,none⟩ (.int .i64 kv)).setCell ⟨w.heap.size,1,none⟩ (.bool bv)).setCell ⟨w.heap.size,2,none⟩ (.int .i64 nv)).setCell ⟨w.heap.size,3,none⟩ (.string tv)).setCell ⟨w.heap.size,4,none⟩ (.slice la lv.length lc)).setCell ⟨w.heap.size,5,none⟩ (.slice oa ov.length oc))=w6 at HP6 H6 Hf6 Hz6 ⊢
  clear x0 x1 x2 x3 x4 x5 fx lx HP5 HP4 HI4
  have hS:=skip_calls R (R+1) s q w6 (by omega) hw2 H6.out
  have hRES:=HRES.out
  generalize past s.data.toList q=p at hS hp hRES
  with_reducible refine hS.mono ?_
  rintro e w7 ⟨rfl,h7⟩
  have hP7:=HP6.out.grown h7.1 (by omega)
  obtain⟨c0,c1,_,_,_⟩:=h7.2.cells
  clear hS
  by_cases hlt:p<s.size
  · rw[if_pos (by rw[size_toList];exact hlt)]at hRES
    subst hRES
    have e1:decide ((p:Int)<(s.size:Int))=true:=decide_eq_true (by omega)
    have e2:(p:Int)<(s.size:Int):=by omega
    have hW:=wrong_calls (.pointer (some ⟨R,0,none⟩)) 4 (p:Nat) w7
    have HP7:=Lib.hid hP7
    have HW:=Lib.hid hW
    have H7:=Lib.hid h7
    clear hP7 hW h7
    go_wp2_with (fail)
    with_reducible refine(HW.out).mono ?_
    rintro e w8 ⟨rfl,rfl⟩
    simp only[faultE]
    go_wp2
    refine leaves_cons (f:=89) (args:= #[.pointer (some ⟨w.heap.size,0,none⟩),.pointer (some ⟨w.heap.size+1,0,none⟩),.pointer (some ⟨w.heap.size+2,0,none⟩)]) (by simp) (by simp[go_sem]) ?_
    refine(pcatch_some w w8 _ _ _ _ _ _ _ _ 4 (p:Nat) HP7.out).mono ?_
    rintro e u' w9 ⟨rfl,rfl,hP9⟩
    obtain⟨d0,d1,d2,d3,d4,d5⟩:=vcell hP9.blkA
    have d6:=hP9.blkB.cell 0
    have d7:=hP9.blkC.cell 0
    simp[Leaves,settle,results,Tryz.results48,go_sem,d0,d1,d2,d3,d4,d5,d6,d7]
    exact⟨hP9.below,rfl⟩
  · rw[if_neg (by rw[size_toList];exact hlt)]at hRES
    subst hRES
    have e1:decide ((p:Int)<(s.size:Int))=false:=decide_eq_false (by omega)
    have e2: ¬((p:Int)<(s.size:Int)):=by omega
    obtain⟨x0,x1,x2,x3,x4,x5⟩:=vcell hP7.blkA
    have fx:=hP7.blkA.frozen
    have lx:=hP7.blkA.lt
    have y0:=hP7.blkB.cell 0
    have fy:=hP7.blkB.frozen 0
    have z0:=hP7.blkC.cell 0
    have fc:=hP7.blkC.frozen 0
    have n0:w.heap.size≠R:=by omega
    have n1:w.heap.size+1≠R:=by omega
    have n2:w.heap.size+2≠R:=by omega
    have n3:w.heap.size+1+1≠R:=by omega
    have n4:w.heap.size+1+1≠w.heap.size:=by omega
    have n5:w.heap.size+1≠w.heap.size:=by omega
    simp only[List.getElem?_toArray,List.getElem?_cons_zero]at y0 z0
    have hA7:Blk ((((((w7.setCell ⟨w.heap.size,0,none⟩ (.int .i64 kv)).setCell ⟨w.heap.size,1,none⟩ (.bool bv)).setCell ⟨w.heap.size,2,none⟩ (.int .i64 nv)).setCell ⟨w.heap.size,3,none⟩ (.string tv)).setCell ⟨w.heap.size,4,none⟩ (.slice la lv.length lc)).setCell ⟨w.heap.size,5,none⟩ (.slice oa ov.length oc)) w.heap.size 27 #[.int .i64 kv,.bool bv,.int .i64 nv,.string tv,.slice la lv.length lc,.slice oa ov.length oc]:=(hP7.setA (.int .i64 kv) (.bool bv) (.int .i64 nv) (.string tv) (.slice la lv.length lc) (.slice oa ov.length oc)).blkA
    obtain⟨q0,q1,q2,q3,q4,q5⟩:=vcell hA7
    have HP7:=Lib.hid hP7
    have H7:=Lib.hid h7
    have HA7:=Lib.hid hA7
    clear hP7 h7 hA7
    go_wp2
    go_region_held3 (fun X=>X.cell? ⟨R,0,none⟩=some (.string s)∧X.cell? ⟨R,1,none⟩=some (.int .i64 (p:Nat))∧X.cell? ⟨w.heap.size,0,none⟩=some (.int .i64 kv)∧X.cell? ⟨w.heap.size,1,none⟩=some (.bool bv)∧X.cell? ⟨w.heap.size,2,none⟩=some (.int .i64 nv)∧X.cell? ⟨w.heap.size,3,none⟩=some (.string tv)∧X.cell? ⟨w.heap.size,4,none⟩=some (.slice la lv.length lc)∧X.cell? ⟨w.heap.size,5,none⟩=some (.slice oa ov.length oc)) (go_keep) (fail)
    all_goals
     have hP9:P3 w (((((((((w7.setCell ⟨w.heap.size,0,none⟩ (.int .i64 kv)).setCell ⟨w.heap.size,1,none⟩ (.bool bv)).setCell ⟨w.heap.size,2,none⟩ (.int .i64 nv)).setCell ⟨w.heap.size,3,none⟩ (.string tv)).setCell ⟨w.heap.size,4,none⟩ (.slice la lv.length lc)).setCell ⟨w.heap.size,5,none⟩ (.slice oa ov.length oc)).setCell ⟨w.heap.size+1,0,none⟩ (.int .i64 (p:Nat))).setCell ⟨w.heap.size+1+1,0,none⟩ (.int .i64 0)).drew) #[.int .i64 kv,.bool bv,.int .i64 nv,.string tv,.slice la lv.length lc,.slice oa ov.length oc] (.int .i64 (p:Nat)) (.int .i64 0):=(((HP7.out.setA (.int .i64 kv) (.bool bv) (.int .i64 nv) (.string tv) (.slice la lv.length lc) (.slice oa ov.length oc)).setB (.int .i64 (p:Nat))).setC (.int .i64 0)).later (Below.drew (Below.refl _ _))
     have hf9:Fresh w.heap.size (((((((((w7.setCell ⟨w.heap.size,0,none⟩ (.int .i64 kv)).setCell ⟨w.heap.size,1,none⟩ (.bool bv)).setCell ⟨w.heap.size,2,none⟩ (.int .i64 nv)).setCell ⟨w.heap.size,3,none⟩ (.string tv)).setCell ⟨w.heap.size,4,none⟩ (.slice la lv.length lc)).setCell ⟨w.heap.size,5,none⟩ (.slice oa ov.length oc)).setCell ⟨w.heap.size+1,0,none⟩ (.int .i64 (p:Nat))).setCell ⟨w.heap.size+1+1,0,none⟩ (.int .i64 0)).drew) (dV (.mk kv bv nv tv lv ov)) [.int .i64 kv,.bool bv,.int .i64 nv,.string tv,.slice la lv.length lc,.slice oa ov.length oc]:=fresh_end Hf6.out Hz6.out H7.out.1 hRlt (by omega) [.int .i64 kv,.bool bv,.int .i64 nv,.string tv,.slice la lv.length lc,.slice oa ov.length oc] _ _
     have HP9:=Lib.hid hP9
     have Hf9:=Lib.hid hf9
     clear hP9 hf9
     clear q0 q1 q2 q3 q4 q5 x0 x1 x2 x3 x4 x5 y0 z0 fx fy fc
     go_wp2
     refine leaves_cons (f:=89) (args:= #[.pointer (some ⟨w.heap.size,0,none⟩),.pointer (some ⟨w.heap.size+1,0,none⟩),.pointer (some ⟨w.heap.size+2,0,none⟩)]) (by simp) (by simp[go_sem]) ?_
     refine(pcatch_idle _ _ _ _).mono ?_
     rintro e u' w9 ⟨rfl,rfl,rfl⟩
     obtain⟨d0,d1,d2,d3,d4,d5⟩:=vcell HP9.out.blkA
     have d6:=HP9.out.blkB.cell 0
     have d7:=HP9.out.blkC.cell 0
     simp only[List.getElem?_toArray,List.getElem?_cons_zero]at d6 d7
     generalize (((((((((w7.setCell ⟨w.heap.size,0,none⟩ (.int .i64 kv)).setCell ⟨w.heap.size,1,none⟩ (.bool bv)).setCell ⟨w.heap.size,2,none⟩ (.int .i64 nv)).setCell ⟨w.heap.size,3,none⟩ (.string tv)).setCell ⟨w.heap.size,4,none⟩ (.slice la lv.length lc)).setCell ⟨w.heap.size,5,none⟩ (.slice oa ov.length oc)).setCell ⟨w.heap.size+1,0,none⟩ (.int .i64 (p:Nat))).setCell ⟨w.heap.size+1+1,0,none⟩ (.int .i64 0)).drew)=w9 at HP9 Hf9 d0 d1 d2 d3 d4 d5 d6 d7 ⊢
     simp[Leaves,settle,results,Tryz.results48,go_sem,d0,d1,d2,d3,d4,d5,d6,d7]
     exact⟨HP9.out.below,_,rfl,Hf9.out⟩
end Go.Proofs.YtkkbplakgldlpaaGreatDoor

namespace Go.Proofs.YtkkbplakgldlpaaGreatDoor
open Go Go.RowKit
def exactL (s:List UInt8):Rd Val:=match parseL s with
 | .bad c q=> .bad c q
 | .ok v q=>if textV v=s then .ok v q else .bad 4 q
theorem parse_bad {s:List UInt8} {c:Int} {q:Nat} (h:parseL s=.bad c q):1≤c:=by
 unfold parseL at h
 have hw:=(within_all (4*s.length+4)).1 s 0 1 (Nat.zero_le _)
 cases hr:valueF (4*s.length+4) s 0 1 with
 |bad e p=>rw[hr]at h hw;simp only[Rd.bad.injEq]at h;have:=hw.2.2.1;omega
 |ok v p=>
  rw[hr]at h
  simp only at h
  split at h
  · simp only[Rd.bad.injEq]at h;omega
  · cases h
end Go.Proofs.YtkkbplakgldlpaaGreatDoor

namespace Go.Proofs.YtkkbplakgldlpaaGreatDoor
theorem exactL_bad0 {s:List UInt8} {c:Int} {q:Nat} (h:c=0):exactL s≠ .bad c q:=by
 intro e
 unfold exactL at e
 split at e
 · rename_i hp
   cases e
   have:=parse_bad hp
   omega
 · split at e
   · cases e
   · cases e
     omega
end Go.Proofs.YtkkbplakgldlpaaGreatDoor

namespace Go.Proofs.YtkkbplakgldlpaaGreatDoor
def atO' (k:ByteArray) (o:List (ByteArray×Val)):Val:=(findO k o).getD noV
end Go.Proofs.YtkkbplakgldlpaaGreatDoor

namespace Go.Proofs.YtkkbplakgldlpaaGreatDoor
abbrev noM:Mut:=.mk 0 nil0 nil0 0 false noV false noV []
def fitB (all opt:List ByteArray) (o:List (ByteArray×Val)):Bool:=(o.all fun p=>(all++opt).any fun x=>decide (p.1=x))&&all.all fun x=>(findO x o).isSome
def kindOf (s:ByteArray):Option Int:=if s=nPut then some 1 else if s=nDel then some 2 else if s=nInc then some 3 else if s=nCas then some 4 else if s=nApp then some 5 else if s=nMove then some 6 else if s=nSeq then some 7 else none
def mustN (k:Int):List ByteArray:=if k=1∨k=5 then [kKey,kVal]else if k=2∨k=4 then [kKey]else if k=3 then [kBy,kKey]else if k=6 then [kFrom,kTo]else [kDo]
def mayN (k:Int):List ByteArray:=if k=4 then [kIs,kWas]else if k=7 then [kIf]else []
def eachM (f:Val→Int×Mut):List Val→Int×List Mut
 | []=>(0, [])
 |v::r=>if(f v).1≠0 then((f v).1, [])else if(eachM f r).1≠0 then((eachM f r).1, [])else(0,(f v).2::(eachM f r).2)
def guardM (g:Val) (l:List Mut):Int×Mut:=
 if kindV g≠6 then(9,noM)else if fitB [kKey] [kWas] (objV' g)=false then(10,noM)else
 if kindV (atO' kKey (objV' g))≠4 then(9,noM)else if(txtV' (atO' kKey (objV' g))).toList.isEmpty then(8,noM)else
 (0,.mk 7 (txtV' (atO' kKey (objV' g))) nil0 0 (findO kWas (objV' g)).isSome (atO' kWas (objV' g)) false noV l)
def argsM (f:Val→Int×Mut) (k:Int) (o:List (ByteArray×Val)):Int×Mut:=
 if k=7 then
  (if kindV (atO' kDo o)≠5 then(9,noM)else if(eachM f (lstV' (atO' kDo o))).1≠0 then((eachM f (lstV' (atO' kDo o))).1,noM)else
  match findO kIf o with
  |none=>(0,.mk 7 nil0 nil0 0 false noV false noV (eachM f (lstV' (atO' kDo o))).2)
  |some g=>guardM g (eachM f (lstV' (atO' kDo o))).2)
 else if k=6 then
  (if kindV (atO' kFrom o)≠4∨kindV (atO' kTo o)≠4 then(9,noM)else(0,.mk 6 (txtV' (atO' kFrom o)) (txtV' (atO' kTo o)) 0 false noV false noV []))
 else if k=3∧kindV (atO' kBy o)≠3 then(9,noM)
 else if kindV (atO' kKey o)≠4 then(9,noM)
 else if k=3 then(0,.mk 3 (txtV' (atO' kKey o)) nil0 (intV' (atO' kBy o)) false noV false noV [])
 else if k=4 then(0,.mk 4 (txtV' (atO' kKey o)) nil0 0 (findO kWas o).isSome (atO' kWas o) (findO kIs o).isSome (atO' kIs o) [])
 else if k=2 then(0,.mk 2 (txtV' (atO' kKey o)) nil0 0 false noV false noV [])
 else(0,.mk k (txtV' (atO' kKey o)) nil0 0 false noV false (atO' kVal o) [])
def readM:Nat→Val→Int×Mut
 |0,_=>(5,noM)
 |f+1,v=>
  if kindV v≠6 then(9,noM)else if fitB [kArgs,kName] [] (objV' v)=false then(10,noM)else
  if kindV (atO' kName (objV' v))≠4 then(9,noM)else
  match kindOf (txtV' (atO' kName (objV' v)))with
  |none=>(12,noM)
  |some k=>
   if kindV (atO' kArgs (objV' v))≠6 then(9,noM)else if fitB (mustN k) (mayN k) (objV' (atO' kArgs (objV' v)))=false then(10,noM)else
   argsM (readM f) k (objV' (atO' kArgs (objV' v)))
def mutOf (v:Val):Int×Mut:=
 if mayV v 1≠0 then(mayV v 1,noM)else if(readM 65 v).1≠0 then((readM 65 v).1,noM)else if mutMay (readM 65 v).2≠0 then(mutMay (readM 65 v).2,noM)else(0,(readM 65 v).2)
end Go.Proofs.YtkkbplakgldlpaaGreatDoor

namespace Go.Proofs.YtkkbplakgldlpaaGreatDoor
open Go.RowKit
def MSizeC (m:Mut):Prop:= ∀(cs:List Value) (w:World),Holds w w.heap.size (dM m) cs→bulkM m≤100000000→
 Calls Tryz.prog 26 #[.agg cs.toArray] w fun e w'=>e=.returned (.int .i64 (sizeM m))∧Below w.heap.size w w'
theorem sizeMs_take {l:List Mut} {q:Nat} {m:Mut} (h:l[q]? =some m):sizeMs (l.take (q+1))=sizeMs (l.take q)+sizeM m:=by
 rw[List.take_add_one,h,sizeMs_app];simp[sizeMs]
theorem sizeMs_le: ∀(q:Nat) (l:List Mut),sizeMs (l.take q)≤sizeMs l
 |0,l=>by simp[sizeMs]
 |q+1, []=>by simp[sizeMs]
 |q+1,x::r=>by have:=sizeMs_le q r;simp only[List.take_succ_cons,sizeMs];omega
set_option maxRecDepth 100000 in
set_option maxHeartbeats 2000000 in
theorem msize_step (k:Int) (key dst:ByteArray) (n:Int) (had:Bool) (k1:Int) (b1:Bool) (n1:Int) (t1:ByteArray) (l1:List Val) (o1:List (ByteArray×Val)) (has:Bool) (k2:Int) (b2:Bool) (n2:Int) (t2:ByteArray) (l2:List Val) (o2:List (ByteArray×Val)) (l:List Mut) (ih: ∀x ∈ l,MSizeC x):MSizeC (Mut.mk k key dst n had (.mk k1 b1 n1 t1 l1 o1) has (.mk k2 b2 n2 t2 l2 o2) l):=by
 intro cs w hM hb
 obtain⟨la1,lc1,oa1,oc1,la2,lc2,oa2,oc2,a,c,rfl,hv1,hv2,hl⟩:=mut_cells hM
 have hsz:=sizeM_bulk (Mut.mk k key dst n had (.mk k1 b1 n1 t1 l1 o1) has (.mk k2 b2 n2 t2 l2 o2) l)
 have hls:=bulkMs_len l
 simp only[bulkM]at hb
 simp only[bulkM,sizeM]at hsz
 have hI0:Hid (Below w.heap.size w (w.alloc (.cells #[.int .i64 k,.string key,.string dst,.int .i64 n,.bool had,.int .i64 k1,.bool b1,.int .i64 n1,.string t1,.slice la1 l1.length lc1,.slice oa1 o1.length oc1,.bool has,.int .i64 k2,.bool b2,.int .i64 n2,.string t2,.slice la2 l2.length lc2,.slice oa2 o2.length oc2,.slice a l.length c] 30))):=Lib.hid (alloc_below _ _)
 have hxb:=Blk.new w 30 #[.int .i64 k,.string key,.string dst,.int .i64 n,.bool had,.int .i64 k1,.bool b1,.int .i64 n1,.string t1,.slice la1 l1.length lc1,.slice oa1 o1.length oc1,.bool has,.int .i64 k2,.bool b2,.int .i64 n2,.string t2,.slice la2 l2.length lc2,.slice oa2 o2.length oc2,.slice a l.length c]
 have Ih:=Lib.hid ih
 have Hl:=Lib.hid hl
 have Hxb:=Lib.hid hxb
 clear ih hl hxb
 clear hM hv1 hv2
 go_enter Tryz.func26,Tryz.ntmps26
 go_wp2_with (fail)
 go_loopw [3,9] (fun s i wr=> ∃q:Nat,i=.int .i64 q∧q≤l.length∧s=.int .i64 (1+(sizeMs (l.take q):Nat))∧Hid (Below w.heap.size w wr)) (fun _ i _=>l.length - (intOf i).toNat)
 case atStart=>exact⟨0,rfl,Nat.zero_le _,by simp[sizeMs],hI0⟩
 case round=>
  obtain⟨q,rfl,hq,rfl,hbw⟩:=hrel
  clear hI0
  by_cases hlt:q<l.length
  · obtain⟨m,hm⟩: ∃p,l[q]? =some p:=⟨_,List.getElem?_eq_getElem hlt⟩
    have hmem:=List.mem_of_getElem? hm
    have htk:=sizeMs_take hm
    have hbm:=bulkMs_mem hmem
    have hsm:=sizeM_bulk m
    have hst:sizeMs (l.take q)+sizeM m≤sizeMs l:=by rw[←htk];exact sizeMs_le _ _
    have hC:=Ih.out m hmem
    obtain⟨k',key',dst',n',had',⟨k1',b1',n1',t1',l1',o1'⟩,has',⟨k2',b2',n2',t2',l2',o2'⟩,l'⟩:=m
    have hz:=hbw.out.size
    obtain⟨g,off,rfl,hg,cs',hcs,_,hcell⟩:=mut_at (Hl.out.below hbw.out) hm
    obtain⟨la1',lc1',oa1',oc1',la2',lc2',oa2',oc2',a',c',rfl,_,_,_⟩:=mut_cells hcs
    have hrange:wr.rangeAt g (off+q*19) [.int .i64 k',.string key',.string dst',.int .i64 n',.bool had',.int .i64 k1',.bool b1',.int .i64 n1',.string t1',.slice la1' l1'.length lc1',.slice oa1' o1'.length oc1',.bool has',.int .i64 k2',.bool b2',.int .i64 n2',.string t2',.slice la2' l2'.length lc2',.slice oa2' o2'.length oc2',.slice a' l'.length c']:=hcell
    have c0_:=hcell 0 _ rfl;have c1_:=hcell 1 _ rfl;have c2_:=hcell 2 _ rfl;have c3_:=hcell 3 _ rfl;have c4_:=hcell 4 _ rfl;have c5_:=hcell 5 _ rfl;have c6_:=hcell 6 _ rfl;have c7_:=hcell 7 _ rfl;have c8_:=hcell 8 _ rfl;have c9_:=hcell 9 _ rfl;have c10_:=hcell 10 _ rfl;have c11_:=hcell 11 _ rfl;have c12_:=hcell 12 _ rfl;have c13_:=hcell 13 _ rfl;have c14_:=hcell 14 _ rfl;have c15_:=hcell 15 _ rfl;have c16_:=hcell 16 _ rfl;have c17_:=hcell 17 _ rfl;have c18_:=hcell 18 _ rfl
    rw[Nat.add_zero]at c0_
    have hgr:g<wr.heap.size:=by omega
    have hq1:(q:Int)<(l.length:Int):=by omega
    have hq0:(0:Int)≤q:=by omega
    have hC': ∀W,Below wr.heap.size wr W→Calls Tryz.prog 26 #[.agg #[.int .i64 k',.string key',.string dst',.int .i64 n',.bool had',.int .i64 k1',.bool b1',.int .i64 n1',.string t1',.slice la1' l1'.length lc1',.slice oa1' o1'.length oc1',.bool has',.int .i64 k2',.bool b2',.int .i64 n2',.string t2',.slice la2' l2'.length lc2',.slice oa2' o2'.length oc2',.slice a' l'.length c']] W fun e w'=>e=.returned (.int .i64 (sizeM (Mut.mk k' key' dst' n' had' (.mk k1' b1' n1' t1' l1' o1') has' (.mk k2' b2' n2' t2' l2' o2') l')))∧Below W.heap.size W w':=fun W hW=>hC _ W ((hcs.below (hW.mono hz)).more (Nat.le_trans hz hW.size)) (by omega)
    have i1:((sizeMs (l.take q):Nat):Int)+((sizeM (Mut.mk k' key' dst' n' had' (.mk k1' b1' n1' t1' l1' o1') has' (.mk k2' b2' n2' t2' l2' o2') l'):Nat):Int)≤1000000000:=by omega
    have i2:(0:Int)≤((sizeM (Mut.mk k' key' dst' n' had' (.mk k1' b1' n1' t1' l1' o1') has' (.mk k2' b2' n2' t2' l2' o2') l'):Nat):Int):=by omega
    have htk':((sizeMs (l.take (q+1)):Nat):Int)=((sizeMs (l.take q):Nat):Int)+((sizeM (Mut.mk k' key' dst' n' had' (.mk k1' b1' n1' t1' l1' o1') has' (.mk k2' b2' n2' t2' l2' o2') l'):Nat):Int):=by rw[htk];simp
    have i3:(0:Int)≤((sizeMs (l.take q):Nat):Int):=by omega
    generalize ((sizeM (Mut.mk k' key' dst' n' had' (.mk k1' b1' n1' t1' l1' o1') has' (.mk k2' b2' n2' t2' l2' o2') l'):Nat):Int)=S at hC' i1 i2 htk'
    generalize ((sizeMs (l.take q):Nat):Int)=T at i1 htk' i3 ⊢
    have HC':=Lib.hid hC'
    have Hbw:=Lib.hid hbw
    have Htk':=Lib.hid htk'
    clear hC' hbw htk'
    clear hC hcs hcell hmem htk hbm hsm hst hm
    go_upto_region 4 with(fail)
    clear c0_ c1_ c2_ c3_ c4_ c5_ c6_ c7_ c8_ c9_ c10_ c11_ c12_ c13_ c14_ c15_ c16_ c17_ c18_
    iterate 5 go_step
    refine wp_load_mid 30 (.tmp 11) rfl g (off+q*19) rfl [.int .i64 k',.string key',.string dst',.int .i64 n',.bool had',.int .i64 k1',.bool b1',.int .i64 n1',.string t1',.slice la1' l1'.length lc1',.slice oa1' o1'.length oc1',.bool has',.int .i64 k2',.bool b2',.int .i64 n2',.string t2',.slice la2' l2'.length lc2',.slice oa2' o2'.length oc2',.slice a' l'.length c'] _ hrange Tryz.underlying30 rfl (by kernel_rfl) ?_
    iterate 5 go_step
    refine wp_store_new 30 (.tmp 5) (.tmp 12) rfl #[.int .i64 k',.string key',.string dst',.int .i64 n',.bool had',.int .i64 k1',.bool b1',.int .i64 n1',.string t1',.slice la1' l1'.length lc1',.slice oa1' o1'.length oc1',.bool has',.int .i64 k2',.bool b2',.int .i64 n2',.string t2',.slice la2' l2'.length lc2',.slice oa2' o2'.length oc2',.slice a' l'.length c'] rfl rfl rfl (by kernel_rfl) (by simp[Value.oneCell']) ?_
    go_upto_region 5 with(fail)
    iterate 5 go_step
    refine wp_load_blk 30 (.tmp 5) rfl wr.heap.size #[.int .i64 k',.string key',.string dst',.int .i64 n',.bool had',.int .i64 k1',.bool b1',.int .i64 n1',.string t1',.slice la1' l1'.length lc1',.slice oa1' o1'.length oc1',.bool has',.int .i64 k2',.bool b2',.int .i64 n2',.string t2',.slice la2' l2'.length lc2',.slice oa2' o2'.length oc2',.slice a' l'.length c'] (Blk.new _ _ _) rfl _ Tryz.underlying30 rfl (by kernel_rfl) ?_
    go_wp2_with (go_at_call 26;(with_reducible refine(HC'.out _ (alloc_below _ _)).mono ?_);rintro e w1 ⟨rfl,hb1⟩)
    have hbf:=(Hbw.out.trans ((alloc_below wr (.cells #[.int .i64 k',.string key',.string dst',.int .i64 n',.bool had',.int .i64 k1',.bool b1',.int .i64 n1',.string t1',.slice la1' l1'.length lc1',.slice oa1' o1'.length oc1',.bool has',.int .i64 k2',.bool b2',.int .i64 n2',.string t2',.slice la2' l2'.length lc2',.slice oa2' o2'.length oc2',.slice a' l'.length c'] 30)).mono hz)).trans (hb1.mono (by simp;omega))
    have HB:=Lib.hid hbf
    clear hb1 hbf
    go_wp2
    go_roundw
    case rel=>exact⟨q+1,by go_num,by omega,by rw[Htk'.out];go_num,HB⟩
    case measure=>simp only[intOf];omega
  · obtain rfl:q=l.length:=by omega
    have e1:sizeMs (l.take l.length)=sizeMs l:=by rw[List.take_length]
    rw[e1]
    have Hbw:=Lib.hid hbw
    clear hbw
    go_wp2
    go_ret
    exact⟨by simp[sizeM],Hbw.out⟩
theorem msize_calls: ∀m,MSizeC m:=by
 refine Mut.ind ?_
 intro k key dst n had was has v l IH
 obtain⟨k1,b1,n1,t1,l1,o1⟩:=was
 obtain⟨k2,b2,n2,t2,l2,o2⟩:=v
 exact msize_step k key dst n had k1 b1 n1 t1 l1 o1 has k2 b2 n2 t2 l2 o2 l IH
def RSizeC (m:Mut):Prop:= ∀(cs:List Value) (w:World),Holds w w.heap.size (dM m) cs→bulkM m≤100000000→
 Calls Tryz.prog 17 #[.agg cs.toArray] w fun e w'=>e=.returned (.int .i64 (sizeM m))∧Below w.heap.size w w'
set_option maxRecDepth 100000 in
set_option maxHeartbeats 2000000 in
theorem rsize_step (k:Int) (key dst:ByteArray) (n:Int) (had:Bool) (k1:Int) (b1:Bool) (n1:Int) (t1:ByteArray) (l1:List Val) (o1:List (ByteArray×Val)) (has:Bool) (k2:Int) (b2:Bool) (n2:Int) (t2:ByteArray) (l2:List Val) (o2:List (ByteArray×Val)) (l:List Mut) (ih: ∀x ∈ l,RSizeC x):RSizeC (Mut.mk k key dst n had (.mk k1 b1 n1 t1 l1 o1) has (.mk k2 b2 n2 t2 l2 o2) l):=by
 intro cs w hM hb
 obtain⟨la1,lc1,oa1,oc1,la2,lc2,oa2,oc2,a,c,rfl,hv1,hv2,hl⟩:=mut_cells hM
 have hsz:=sizeM_bulk (Mut.mk k key dst n had (.mk k1 b1 n1 t1 l1 o1) has (.mk k2 b2 n2 t2 l2 o2) l)
 have hls:=bulkMs_len l
 simp only[bulkM]at hb
 simp only[bulkM,sizeM]at hsz
 obtain⟨wi,hwi⟩: ∃wi,w.alloc (.cells #[.int .i64 k,.string key,.string dst,.int .i64 n,.bool had,.int .i64 k1,.bool b1,.int .i64 n1,.string t1,.slice la1 l1.length lc1,.slice oa1 o1.length oc1,.bool has,.int .i64 k2,.bool b2,.int .i64 n2,.string t2,.slice la2 l2.length lc2,.slice oa2 o2.length oc2,.slice a l.length c] 30)=wi:=⟨_,rfl⟩
 have hbi:Below w.heap.size w wi:=hwi▸alloc_below _ _
 have hxb:Blk wi w.heap.size 30 #[.int .i64 k,.string key,.string dst,.int .i64 n,.bool had,.int .i64 k1,.bool b1,.int .i64 n1,.string t1,.slice la1 l1.length lc1,.slice oa1 o1.length oc1,.bool has,.int .i64 k2,.bool b2,.int .i64 n2,.string t2,.slice la2 l2.length lc2,.slice oa2 o2.length oc2,.slice a l.length c]:=hwi▸Blk.new _ _ _
 have hI0:Hid (Below wi.heap.size wi wi):=Lib.hid (Below.refl _ _)
 have hgb:=hxb.lt
 have Ih:=Lib.hid ih
 have Hl:=Lib.hid hl
 have Hxb:=Lib.hid hxb
 have Hbi:=Lib.hid hbi
 clear ih hl hxb hbi
 clear hM hv1 hv2
 go_enter Tryz.func17,Tryz.ntmps17
 go_wp2_with (fail)
 clear hwi
 go_loopw [3,4] (fun s i wr=> ∃q:Nat,i=.int .i64 q∧q≤l.length∧s=.int .i64 (1+(sizeMs (l.take q):Nat))∧Hid (Below wi.heap.size wi wr)) (fun _ i _=>l.length - (intOf i).toNat)
 case atStart=>exact⟨0,rfl,Nat.zero_le _,by simp[sizeMs],hI0⟩
 case round=>
  obtain⟨q,rfl,hq,rfl,hbr⟩:=hrel
  clear hI0
  have hbw:=Hbi.out.trans (hbr.out.mono Hbi.out.size)
  have y18:=(Hxb.out.below hbr.out Hxb.out.lt).cell 18
  by_cases hlt:q<l.length
  · obtain⟨m,hm⟩: ∃p,l[q]? =some p:=⟨_,List.getElem?_eq_getElem hlt⟩
    have hmem:=List.mem_of_getElem? hm
    have htk:=sizeMs_take hm
    have hbm:=bulkMs_mem hmem
    have hsm:=sizeM_bulk m
    have hst:sizeMs (l.take q)+sizeM m≤sizeMs l:=by rw[←htk];exact sizeMs_le _ _
    have hC:=Ih.out m hmem
    obtain⟨k',key',dst',n',had',⟨k1',b1',n1',t1',l1',o1'⟩,has',⟨k2',b2',n2',t2',l2',o2'⟩,l'⟩:=m
    have hz:=hbw.size
    obtain⟨g,off,rfl,hg,cs',hcs,_,hcell⟩:=mut_at (Hl.out.below hbw) hm
    obtain⟨la1',lc1',oa1',oc1',la2',lc2',oa2',oc2',a',c',rfl,_,_,_⟩:=mut_cells hcs
    have hrange:wr.rangeAt g (off+q*19) [.int .i64 k',.string key',.string dst',.int .i64 n',.bool had',.int .i64 k1',.bool b1',.int .i64 n1',.string t1',.slice la1' l1'.length lc1',.slice oa1' o1'.length oc1',.bool has',.int .i64 k2',.bool b2',.int .i64 n2',.string t2',.slice la2' l2'.length lc2',.slice oa2' o2'.length oc2',.slice a' l'.length c']:=hcell
    have hgr:g<wr.heap.size:=by omega
    have hq1:(q:Int)<(l.length:Int):=by omega
    have hq0:(0:Int)≤q:=by omega
    have hC': ∀W,Below wr.heap.size wr W→Calls Tryz.prog 17 #[.agg #[.int .i64 k',.string key',.string dst',.int .i64 n',.bool had',.int .i64 k1',.bool b1',.int .i64 n1',.string t1',.slice la1' l1'.length lc1',.slice oa1' o1'.length oc1',.bool has',.int .i64 k2',.bool b2',.int .i64 n2',.string t2',.slice la2' l2'.length lc2',.slice oa2' o2'.length oc2',.slice a' l'.length c']] W fun e w'=>e=.returned (.int .i64 (sizeM (Mut.mk k' key' dst' n' had' (.mk k1' b1' n1' t1' l1' o1') has' (.mk k2' b2' n2' t2' l2' o2') l')))∧Below W.heap.size W w':=fun W hW=>hC _ W ((hcs.below (hW.mono hz)).more (Nat.le_trans hz hW.size)) (by omega)
    have i1:((sizeMs (l.take q):Nat):Int)+((sizeM (Mut.mk k' key' dst' n' had' (.mk k1' b1' n1' t1' l1' o1') has' (.mk k2' b2' n2' t2' l2' o2') l'):Nat):Int)≤1000000000:=by omega
    have i2:(0:Int)≤((sizeM (Mut.mk k' key' dst' n' had' (.mk k1' b1' n1' t1' l1' o1') has' (.mk k2' b2' n2' t2' l2' o2') l'):Nat):Int):=by omega
    have htk':((sizeMs (l.take (q+1)):Nat):Int)=((sizeMs (l.take q):Nat):Int)+((sizeM (Mut.mk k' key' dst' n' had' (.mk k1' b1' n1' t1' l1' o1') has' (.mk k2' b2' n2' t2' l2' o2') l'):Nat):Int):=by rw[htk];simp
    have i3:(0:Int)≤((sizeMs (l.take q):Nat):Int):=by omega
    generalize ((sizeM (Mut.mk k' key' dst' n' had' (.mk k1' b1' n1' t1' l1' o1') has' (.mk k2' b2' n2' t2' l2' o2') l'):Nat):Int)=S at hC' i1 i2 htk'
    generalize ((sizeMs (l.take q):Nat):Int)=T at i1 htk' i3 ⊢
    have hC1:=hC' wr (Below.refl _ _)
    have HC1:=Lib.hid hC1
    have Hbw:=Lib.hid hbw
    have Htk':=Lib.hid htk'
    clear hC1 hbw htk'
    clear hC hC' hcs hcell hmem htk hbm hsm hst hm
    go_upto_region 5 with(fail)
    iterate 17 go_step
    refine wp_load_mid 30 (.tmp 16) rfl g (off+q*19) rfl [.int .i64 k',.string key',.string dst',.int .i64 n',.bool had',.int .i64 k1',.bool b1',.int .i64 n1',.string t1',.slice la1' l1'.length lc1',.slice oa1' o1'.length oc1',.bool has',.int .i64 k2',.bool b2',.int .i64 n2',.string t2',.slice la2' l2'.length lc2',.slice oa2' o2'.length oc2',.slice a' l'.length c'] _ hrange Tryz.underlying30 rfl (by kernel_rfl) ?_
    go_wp2_with (go_at_call 17;(with_reducible refine(HC1.out).mono ?_);rintro e w1 ⟨rfl,hb1⟩)
    have HB:=Lib.hid (hbr.out.trans (hb1.mono hbr.out.size))
    clear hb1
    go_wp2
    go_roundw
    case rel=>exact⟨q+1,by go_num,by omega,by rw[Htk'.out];go_num,HB⟩
    case measure=>simp only[intOf];omega
  · obtain rfl:q=l.length:=by omega
    have e1:sizeMs (l.take l.length)=sizeMs l:=by rw[List.take_length]
    rw[e1]
    have Hbw:=Lib.hid hbw
    clear hbw
    go_wp2
    go_ret
    exact⟨by simp[sizeM],Hbw.out⟩
theorem rsize_calls: ∀m,RSizeC m:=by
 refine Mut.ind ?_
 intro k key dst n had was has v l IH
 obtain⟨k1,b1,n1,t1,l1,o1⟩:=was
 obtain⟨k2,b2,n2,t2,l2,o2⟩:=v
 exact rsize_step k key dst n had k1 b1 n1 t1 l1 o1 has k2 b2 n2 t2 l2 o2 l IH
end Go.Proofs.YtkkbplakgldlpaaGreatDoor
