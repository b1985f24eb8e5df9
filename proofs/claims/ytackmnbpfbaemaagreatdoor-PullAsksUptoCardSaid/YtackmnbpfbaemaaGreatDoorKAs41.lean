/- Parts, joined: parse.Parse: the value of a text, or the error and its place. Condition: a text of at most 10^8 bytes. What Exact comes to. No condition. What a pull's frame is read as. Plain. No condition. What a map of the pull's answers; a member of an object, cell by cell. No condition. pull.fill of a pull's object. Condition: at most 10^8 members. parse.Exact. Condition: a text of at most 10^8 bytes. -/
import Derived.Test.YtackmnbpfbaemaaGreatDoorProg
import Derived.Deep.RegionHeld3
import Derived.Defers
import Derived.Recover
import Derived.Laws.Pointers
import Derived.WideLaws
import Derived.Test.YtackmnbpfbaemaaGreatDoorKAs3
import Derived.Test.YtackmnbpfbaemaaGreatDoorKAs11
import Derived.Test.YtackmnbpfbaemaaGreatDoorKAs14
import Derived.Test.YtackmnbpfbaemaaGreatDoorKAs18
import Derived.Test.YtackmnbpfbaemaaGreatDoorKAs19
import Derived.Test.YtackmnbpfbaemaaGreatDoorKAs22
import Derived.Test.YtackmnbpfbaemaaGreatDoorKAs24
import Derived.Test.YtackmnbpfbaemaaGreatDoorKAs27
import Derived.Test.YtackmnbpfbaemaaGreatDoorKAs29
import Derived.Test.YtackmnbpfbaemaaGreatDoorKAs34
import Derived.Test.YtackmnbpfbaemaaGreatDoorKAs39
namespace Go.Proofs.YtackmnbpfbaemaaGreatDoor
open Go Go.RowKit
theorem P3.grown {w W W':World} {a:Array Value} {vb vc:Value} {R:Nat} (h:P3 w W a vb vc) (t:W.grownBy W' (some R)) (hR:w.heap.size+3≤R):P3 w W' a vb vc:=
 ⟨h.below.grown t h.below.size (fun r e=>by have:=Option.some.inj e;omega),h.blkA.grown t (fun e=>by have:=Option.some.inj e;omega),h.blkB.grown t (fun e=>by have:=Option.some.inj e;omega),h.blkC.grown t (fun e=>by have:=Option.some.inj e;omega)⟩
theorem P3.new (w:World):P3 w (((w.alloc (.cells zero6 39)).alloc (.cells #[.int .i64 0] 3)).alloc (.cells #[.int .i64 0] 26)) zero6 (.int .i64 0) (.int .i64 0):=
 ⟨((alloc_below w _).alloc (by simp) _).alloc (by simp;omega) _,((Blk.new w _ _).alloc _).alloc _,by simpa using(Blk.new (w.alloc (.cells zero6 39)) 3 #[.int .i64 0]).alloc (.cells #[.int .i64 0] 26),by simpa using Blk.new ((w.alloc (.cells zero6 39)).alloc (.cells #[.int .i64 0] 3)) 26 #[.int .i64 0]⟩
theorem fresh_end {B:Nat} {w4 w6 w7:World} {R:Nat} {d:D} {cs:List Value} (hf:Fresh w4.heap.size w6 d cs) (_h6:w4.heap.size≤w6.heap.size) (h7:w6.grownBy w7 (some R)) (hR:R<w4.heap.size) (hw:B+3≤w4.heap.size) (vs:List Value) (v1 v2:Value):
 Fresh B (((setMany w7 B 0 vs).setCell ⟨B+1,0,none⟩ v1).setCell ⟨B+1+1,0,none⟩ v2).drew d cs:=by
 have z7:=h7.size
 have e9:((((setMany w7 B 0 vs).setCell ⟨B+1,0,none⟩ v1).setCell ⟨B+1+1,0,none⟩ v2).drew).heap.size=w7.heap.size:=by
  have:=setMany_size vs w7 B 0
  simpa[World.setCell]using this
 refine hf.keep (b':=B) (by omega) (by rw[e9];exact z7) (fun a p1 p2=>World.cell?_of_block ?_)
 rw[←h7.block a.block p2 (by intro e;have:=Option.some.inj e;omega)]
 show(((setMany w7 B 0 vs).setCell ⟨B+1,0,none⟩ v1).setCell ⟨B+1+1,0,none⟩ v2).heap[a.block]? =_
 exact(Below.heap_setCell _ _ _ _ (by simp;omega)).trans ((Below.heap_setCell _ _ _ _ (by simp;omega)).trans (setMany_far _ w7 B 0 a.block (by omega)))
set_option maxRecDepth 100000 in
set_option maxHeartbeats 8000000 in
theorem parse_calls (s:ByteArray) (w:World) (hT:Tabs w) (hN:NumT w) (hs:s.size≤100000000):
 Calls Tryz.prog 83 #[.string s] w (RefOut w (parseL s.data.toList)):=by
 have hmf: ∀(fn:Fn) (first cap:Array Value) (w:World),(Instr.makeFunc fn first cap).run Tryz.prog w= .ok (.func fn first cap) w:=fun _ _ _ _=>rfl
 have hP0:=P3.new w
 have hz3:(((w.alloc (.cells zero6 39)).alloc (.cells #[.int .i64 0] 3)).alloc (.cells #[.int .i64 0] 26)).heap.size=w.heap.size+3:=by simp
 obtain⟨w3,hw3⟩: ∃w3,((w.alloc (.cells zero6 39)).alloc (.cells #[.int .i64 0] 3)).alloc (.cells #[.int .i64 0] 26)=w3:=⟨_,rfl⟩
 rw[hw3]at hP0 hz3
 have hNR:=newReader_calls s w3
 have hV:=value_all w3 (hT.below hP0.below) (hN.below hP0.below) w3.heap.size (w3.heap.size+1) s hs (4*s.data.toList.length+4)
 obtain⟨R,hR⟩: ∃R,w3.heap.size=R:=⟨_,rfl⟩
 rw[hR]at hNR hV
 have hRw:w.heap.size+3≤R:=by omega
 clear hz3
 have hwi:=(within_all (4*s.data.toList.length+4)).1 s.data.toList 0 1 (Nat.zero_le _)
 obtain⟨RES,hRES⟩: ∃r,parseL s.data.toList=r:=⟨_,rfl⟩
 rw[hRES]
 unfold parseL at hRES
 have hV0:=fun(w4:World) h=>hV w4 0 1 h (Nat.zero_le _) (by rw[size_toList];omega) (by omega) (by omega)
 cases hr:valueF (4*s.data.toList.length+4) s.data.toList 0 1 with
 |bad c q=>
  rw[hr]at hRES hV0
  simp only at hRES
  subst hRES
  clear hV hr hwi
  have HP0:=Lib.hid hP0
  have HV0:=Lib.hid hV0
  have HNR:=Lib.hid hNR
  clear hP0 hV0 hNR
  go_enter_defers Tryz.func83,Tryz.ntmps83
  go_wp2_with (fail)
  with_reducible refine(HNR.out).mono ?_
  rintro e w4 ⟨rfl,hnr⟩
  have hP4:=HP0.out.later hnr.below
  have hI4:RdI w3 w4 R (R+1) s 0:=⟨hnr.below,by omega,by have:=hnr.blk;rw[hR]at this;exact this,by have:=hnr.map;rw[hR]at this;exact this⟩
  have hV4:=HV0.out w4 hI4
  have HP4:=Lib.hid hP4
  have HI4:=Lib.hid hI4
  have HV4:=Lib.hid hV4
  clear hP4 hI4 hV4
  clear hnr hw3
  go_wp2_with (fail)
  with_reducible refine(HV4.out).mono ?_
  rintro e w5 ⟨rfl,hg5⟩
  have hP5:=HP4.out.grown hg5 (by omega)
  simp only[faultE]
  go_wp2
  refine leaves_cons (f:=121) (args:= #[.pointer (some ⟨w.heap.size,0,none⟩), .pointer (some ⟨w.heap.size+1,0,none⟩), .pointer (some ⟨w.heap.size+2,0,none⟩)]) (by simp) (by simp[go_sem]) ?_
  refine(pcatch_some w w5 _ _ _ _ _ _ _ _ c (q:Nat) hP5).mono ?_
  rintro e u' w6 ⟨rfl,rfl,hP6⟩
  have d0:=hP6.blkA.cell 0
  obtain⟨d0,d1,d2,d3,d4,d5⟩:=vcell hP6.blkA
  have d6:=hP6.blkB.cell 0
  have d7:=hP6.blkC.cell 0
  simp[Leaves,settle,results,Tryz.results83,go_sem,d0,d1,d2,d3,d4,d5,d6,d7]
  exact⟨hP6.below,rfl⟩
 |ok v q=>
  rw[hr]at hRES hV0 hwi
  simp only at hRES
  obtain⟨hw1,hw2⟩:=hwi
  rw[size_toList]at hw2
  have hp:=past_size hw2
  obtain⟨kv,bv,nv,tv,lv,ov⟩:=v
  clear hV hr
  have HP0:=Lib.hid hP0
  have HV0:=Lib.hid hV0
  have HNR:=Lib.hid hNR
  have HRES:=Lib.hid hRES
  clear hP0 hV0 hNR hRES
  go_enter_defers Tryz.func83,Tryz.ntmps83
  go_wp2_with (fail)
  with_reducible refine(HNR.out).mono ?_
  rintro e w4 ⟨rfl,hnr⟩
  have hP4:=HP0.out.later hnr.below
  have hI4:RdI w3 w4 R (R+1) s 0:=⟨hnr.below,by omega,by have:=hnr.blk;rw[hR]at this;exact this,by have:=hnr.map;rw[hR]at this;exact this⟩
  have hV4:=HV0.out w4 hI4
  have hRlt:R<w4.heap.size:=Blk.lt hI4.rd
  have hz4:w.heap.size+3≤w4.heap.size:=by have:=hnr.below.size;omega
  have HP4:=Lib.hid hP4
  have HI4:=Lib.hid hI4
  have HV4:=Lib.hid hV4
  clear hP4 hI4 hV4
  clear hnr hw3 HNR HV0
  go_wp2_with (fail)
  with_reducible refine(HV4.out).mono ?_
  rintro e w5 ⟨⟨cs,rfl,hf5⟩,h5⟩
  obtain⟨la,lc,oa,oc,rfl⟩:=six_now hf5
  have hP5:=HP4.out.grown h5.1 (by omega)
  have hz5:=h5.1.size
  obtain⟨x0,x1,x2,x3,x4,x5⟩:=vcell hP5.blkA
  have fx:=hP5.blkA.frozen
  have lx:=hP5.blkA.lt
  have hP6:P3 w ((((((w5.setCell ⟨w.heap.size,0,none⟩ (.int .i64 kv)).setCell ⟨w.heap.size,1,none⟩ (.bool bv)).setCell ⟨w.heap.size,2,none⟩ (.int .i64 nv)).setCell ⟨w.heap.size,3,none⟩ (.string tv)).setCell ⟨w.heap.size,4,none⟩ (.slice la lv.length lc)).setCell ⟨w.heap.size,5,none⟩ (.slice oa ov.length oc)) #[.int .i64 kv, .bool bv, .int .i64 nv, .string tv, .slice la lv.length lc, .slice oa ov.length oc] (.int .i64 0) (.int .i64 0):=hP5.setA (.int .i64 kv) (.bool bv) (.int .i64 nv) (.string tv) (.slice la lv.length lc) (.slice oa ov.length oc)
  have h6:RdB ((((((w5.setCell ⟨w.heap.size,0,none⟩ (.int .i64 kv)).setCell ⟨w.heap.size,1,none⟩ (.bool bv)).setCell ⟨w.heap.size,2,none⟩ (.int .i64 nv)).setCell ⟨w.heap.size,3,none⟩ (.string tv)).setCell ⟨w.heap.size,4,none⟩ (.slice la lv.length lc)).setCell ⟨w.heap.size,5,none⟩ (.slice oa ov.length oc)) R (R+1) s q:=(setMany_far [.int .i64 kv, .bool bv, .int .i64 nv, .string tv, .slice la lv.length lc, .slice oa ov.length oc] w5 w.heap.size 0 R (by omega)).trans h5.2
  have hf6:Fresh w4.heap.size ((((((w5.setCell ⟨w.heap.size,0,none⟩ (.int .i64 kv)).setCell ⟨w.heap.size,1,none⟩ (.bool bv)).setCell ⟨w.heap.size,2,none⟩ (.int .i64 nv)).setCell ⟨w.heap.size,3,none⟩ (.string tv)).setCell ⟨w.heap.size,4,none⟩ (.slice la lv.length lc)).setCell ⟨w.heap.size,5,none⟩ (.slice oa ov.length oc)) (dV (.mk kv bv nv tv lv ov)) [.int .i64 kv, .bool bv, .int .i64 nv, .string tv, .slice la lv.length lc, .slice oa ov.length oc]:=hf5.keep (b':=w4.heap.size) (Nat.le_refl _) (by rw[show((((((w5.setCell ⟨w.heap.size,0,none⟩ (.int .i64 kv)).setCell ⟨w.heap.size,1,none⟩ (.bool bv)).setCell ⟨w.heap.size,2,none⟩ (.int .i64 nv)).setCell ⟨w.heap.size,3,none⟩ (.string tv)).setCell ⟨w.heap.size,4,none⟩ (.slice la lv.length lc)).setCell ⟨w.heap.size,5,none⟩ (.slice oa ov.length oc))=setMany w5 w.heap.size 0 [.int .i64 kv, .bool bv, .int .i64 nv, .string tv, .slice la lv.length lc, .slice oa ov.length oc]from rfl,setMany_size];exact Nat.le_refl _) (fun p p1 _=>World.cell?_of_block (setMany_far [.int .i64 kv, .bool bv, .int .i64 nv, .string tv, .slice la lv.length lc, .slice oa ov.length oc] w5 w.heap.size 0 p.block (by omega)))
  have HP5:=Lib.hid hP5
  have HP6:=Lib.hid hP6
  have H6:=Lib.hid h6
  have Hf6:=Lib.hid hf6
  clear hP5 hP6 h6 hf6
  clear h5 hf5
  have Hz6:Hid (w4.heap.size≤((((((w5.setCell ⟨w.heap.size,0,none⟩ (.int .i64 kv)).setCell ⟨w.heap.size,1,none⟩ (.bool bv)).setCell ⟨w.heap.size,2,none⟩ (.int .i64 nv)).setCell ⟨w.heap.size,3,none⟩ (.string tv)).setCell ⟨w.heap.size,4,none⟩ (.slice la lv.length lc)).setCell ⟨w.heap.size,5,none⟩ (.slice oa ov.length oc)).heap.size):=by show _≤_;simpa[World.setCell]using hz5
  go_wp2_with (fail)
  generalize ((((((w5.setCell ⟨w.heap.size,0,none⟩ (.int .i64 kv)).setCell ⟨w.heap.size,1,none⟩ (.bool bv)).setCell ⟨w.heap.size,2,none⟩ (.int .i64 nv)).setCell ⟨w.heap.size,3,none⟩ (.string tv)).setCell ⟨w.heap.size,4,none⟩ (.slice la lv.length lc)).setCell ⟨w.heap.size,5,none⟩ (.slice oa ov.length oc))=w6 at HP6 H6 Hf6 Hz6 ⊢
  clear x0 x1 x2 x3 x4 x5 fx lx HP5 HP4 HI4
  have hS:=skip_calls R (R+1) s q w6 (by omega) hw2 H6.out
  have hRES:=HRES.out
  generalize past s.data.toList q=p at hS hp hRES
  with_reducible refine hS.mono ?_
  rintro e w7 ⟨rfl,h7⟩
  have hP7:=HP6.out.grown h7.1 (by omega)
  obtain⟨c0,c1,_,_,_⟩:=h7.2.cells
  clear hS
  by_cases hlt:p<s.size
  · rw[if_pos (by rw[size_toList];exact hlt)]at hRES
    subst hRES
    have e1:decide ((p:Int)<(s.size:Int))=true:=decide_eq_true (by omega)
    have e2:(p:Int)<(s.size:Int):=by omega
    have hW:=wrong_calls (.pointer (some ⟨R,0,none⟩)) 4 (p:Nat) w7
    have HP7:=Lib.hid hP7
    have HW:=Lib.hid hW
    have H7:=Lib.hid h7
    clear hP7 hW h7
    go_wp2_with (fail)
    with_reducible refine(HW.out).mono ?_
    rintro e w8 ⟨rfl,rfl⟩
    simp only[faultE]
    go_wp2
    refine leaves_cons (f:=121) (args:= #[.pointer (some ⟨w.heap.size,0,none⟩), .pointer (some ⟨w.heap.size+1,0,none⟩), .pointer (some ⟨w.heap.size+2,0,none⟩)]) (by simp) (by simp[go_sem]) ?_
    refine(pcatch_some w w8 _ _ _ _ _ _ _ _ 4 (p:Nat) HP7.out).mono ?_
    rintro e u' w9 ⟨rfl,rfl,hP9⟩
    obtain⟨d0,d1,d2,d3,d4,d5⟩:=vcell hP9.blkA
    have d6:=hP9.blkB.cell 0
    have d7:=hP9.blkC.cell 0
    simp[Leaves,settle,results,Tryz.results83,go_sem,d0,d1,d2,d3,d4,d5,d6,d7]
    exact⟨hP9.below,rfl⟩
  · rw[if_neg (by rw[size_toList];exact hlt)]at hRES
    subst hRES
    have e1:decide ((p:Int)<(s.size:Int))=false:=decide_eq_false (by omega)
    have e2: ¬((p:Int)<(s.size:Int)):=by omega
    obtain⟨x0,x1,x2,x3,x4,x5⟩:=vcell hP7.blkA
    have fx:=hP7.blkA.frozen
    have lx:=hP7.blkA.lt
    have y0:=hP7.blkB.cell 0
    have fy:=hP7.blkB.frozen 0
    have z0:=hP7.blkC.cell 0
    have fc:=hP7.blkC.frozen 0
    have n0:w.heap.size≠R:=by omega
    have n1:w.heap.size+1≠R:=by omega
    have n2:w.heap.size+2≠R:=by omega
    have n3:w.heap.size+1+1≠R:=by omega
    have n4:w.heap.size+1+1≠w.heap.size:=by omega
    have n5:w.heap.size+1≠w.heap.size:=by omega
    simp only[List.getElem?_toArray,List.getElem?_cons_zero]at y0 z0
    have hA7:Blk ((((((w7.setCell ⟨w.heap.size,0,none⟩ (.int .i64 kv)).setCell ⟨w.heap.size,1,none⟩ (.bool bv)).setCell ⟨w.heap.size,2,none⟩ (.int .i64 nv)).setCell ⟨w.heap.size,3,none⟩ (.string tv)).setCell ⟨w.heap.size,4,none⟩ (.slice la lv.length lc)).setCell ⟨w.heap.size,5,none⟩ (.slice oa ov.length oc)) w.heap.size 39 #[.int .i64 kv, .bool bv, .int .i64 nv, .string tv, .slice la lv.length lc, .slice oa ov.length oc]:=(hP7.setA (.int .i64 kv) (.bool bv) (.int .i64 nv) (.string tv) (.slice la lv.length lc) (.slice oa ov.length oc)).blkA
    obtain⟨q0,q1,q2,q3,q4,q5⟩:=vcell hA7
    have HP7:=Lib.hid hP7
    have H7:=Lib.hid h7
    have HA7:=Lib.hid hA7
    clear hP7 h7 hA7
    go_wp2
    go_region_held3 (fun X=>X.cell? ⟨R,0,none⟩=some (.string s)∧X.cell? ⟨R,1,none⟩=some (.int .i64 (p:Nat))∧X.cell? ⟨w.heap.size,0,none⟩=some (.int .i64 kv)∧X.cell? ⟨w.heap.size,1,none⟩=some (.bool bv)∧X.cell? ⟨w.heap.size,2,none⟩=some (.int .i64 nv)∧X.cell? ⟨w.heap.size,3,none⟩=some (.string tv)∧X.cell? ⟨w.heap.size,4,none⟩=some (.slice la lv.length lc)∧X.cell? ⟨w.heap.size,5,none⟩=some (.slice oa ov.length oc)) (go_keep) (fail)
    all_goals
     have hP9:P3 w (((((((((w7.setCell ⟨w.heap.size,0,none⟩ (.int .i64 kv)).setCell ⟨w.heap.size,1,none⟩ (.bool bv)).setCell ⟨w.heap.size,2,none⟩ (.int .i64 nv)).setCell ⟨w.heap.size,3,none⟩ (.string tv)).setCell ⟨w.heap.size,4,none⟩ (.slice la lv.length lc)).setCell ⟨w.heap.size,5,none⟩ (.slice oa ov.length oc)).setCell ⟨w.heap.size+1,0,none⟩ (.int .i64 (p:Nat))).setCell ⟨w.heap.size+1+1,0,none⟩ (.int .i64 0)).drew) #[.int .i64 kv, .bool bv, .int .i64 nv, .string tv, .slice la lv.length lc, .slice oa ov.length oc] (.int .i64 (p:Nat)) (.int .i64 0):=(((HP7.out.setA (.int .i64 kv) (.bool bv) (.int .i64 nv) (.string tv) (.slice la lv.length lc) (.slice oa ov.length oc)).setB (.int .i64 (p:Nat))).setC (.int .i64 0)).later (Below.drew (Below.refl _ _))
     have hf9:Fresh w.heap.size (((((((((w7.setCell ⟨w.heap.size,0,none⟩ (.int .i64 kv)).setCell ⟨w.heap.size,1,none⟩ (.bool bv)).setCell ⟨w.heap.size,2,none⟩ (.int .i64 nv)).setCell ⟨w.heap.size,3,none⟩ (.string tv)).setCell ⟨w.heap.size,4,none⟩ (.slice la lv.length lc)).setCell ⟨w.heap.size,5,none⟩ (.slice oa ov.length oc)).setCell ⟨w.heap.size+1,0,none⟩ (.int .i64 (p:Nat))).setCell ⟨w.heap.size+1+1,0,none⟩ (.int .i64 0)).drew) (dV (.mk kv bv nv tv lv ov)) [.int .i64 kv, .bool bv, .int .i64 nv, .string tv, .slice la lv.length lc, .slice oa ov.length oc]:=fresh_end Hf6.out Hz6.out H7.out.1 hRlt (by omega) [.int .i64 kv, .bool bv, .int .i64 nv, .string tv, .slice la lv.length lc, .slice oa ov.length oc] _ _
     have HP9:=Lib.hid hP9
     have Hf9:=Lib.hid hf9
     clear hP9 hf9
     clear q0 q1 q2 q3 q4 q5 x0 x1 x2 x3 x4 x5 y0 z0 fx fy fc
     go_wp2
     refine leaves_cons (f:=121) (args:= #[.pointer (some ⟨w.heap.size,0,none⟩), .pointer (some ⟨w.heap.size+1,0,none⟩), .pointer (some ⟨w.heap.size+2,0,none⟩)]) (by simp) (by simp[go_sem]) ?_
     refine(pcatch_idle _ _ _ _).mono ?_
     rintro e u' w9 ⟨rfl,rfl,rfl⟩
     obtain⟨d0,d1,d2,d3,d4,d5⟩:=vcell HP9.out.blkA
     have d6:=HP9.out.blkB.cell 0
     have d7:=HP9.out.blkC.cell 0
     simp only[List.getElem?_toArray,List.getElem?_cons_zero]at d6 d7
     generalize (((((((((w7.setCell ⟨w.heap.size,0,none⟩ (.int .i64 kv)).setCell ⟨w.heap.size,1,none⟩ (.bool bv)).setCell ⟨w.heap.size,2,none⟩ (.int .i64 nv)).setCell ⟨w.heap.size,3,none⟩ (.string tv)).setCell ⟨w.heap.size,4,none⟩ (.slice la lv.length lc)).setCell ⟨w.heap.size,5,none⟩ (.slice oa ov.length oc)).setCell ⟨w.heap.size+1,0,none⟩ (.int .i64 (p:Nat))).setCell ⟨w.heap.size+1+1,0,none⟩ (.int .i64 0)).drew)=w9 at HP9 Hf9 d0 d1 d2 d3 d4 d5 d6 d7 ⊢
     simp[Leaves,settle,results,Tryz.results83,go_sem,d0,d1,d2,d3,d4,d5,d6,d7]
     exact⟨HP9.out.below,_,rfl,Hf9.out⟩
end Go.Proofs.YtackmnbpfbaemaaGreatDoor

namespace Go.Proofs.YtackmnbpfbaemaaGreatDoor
open Go Go.RowKit
def exactL (s:List UInt8):Rd Val:=match parseL s with
 | .bad c q=> .bad c q
 | .ok v q=>if textV v=s then .ok v q else .bad 4 q
def ExOut (w:World) (RES:Rd Val) (e:Ending) (w':World):Prop:=Below w.heap.size w w'∧match RES with
 | .ok v _=> ∃cs:List Value,e= .returned (.tuple #[.agg cs.toArray, .int .i64 0])∧Fresh w.heap.size w' (dV v) cs
 | .bad c _=>e= .returned (.tuple #[.agg zero6, .int .i64 c])
theorem parse_bad {s:List UInt8} {c:Int} {q:Nat} (h:parseL s= .bad c q):1≤c:=by
 unfold parseL at h
 have hw:=(within_all (4*s.length+4)).1 s 0 1 (Nat.zero_le _)
 cases hr:valueF (4*s.length+4) s 0 1 with
 |bad e p=>rw[hr]at h hw;simp only[Rd.bad.injEq]at h;have:=hw.2.2.1;omega
 |ok v p=>
  rw[hr]at h
  simp only at h
  split at h
  · simp only[Rd.bad.injEq]at h;omega
  · cases h
theorem ba_eq_of {t:List UInt8} {s:ByteArray}:(t==s.toList)=decide (t=s.data.toList):=by
 rw[ByteArray.toList_eq,Bool.eq_iff_iff]
 simp
end Go.Proofs.YtackmnbpfbaemaaGreatDoor

namespace Go.Proofs.YtackmnbpfbaemaaGreatDoor
theorem exactL_text {v:Val} (h:mayV v 1=0) (hi:inV v):exactL (textV v)= .ok v (textV v).length:=by
 unfold exactL
 rw[parse_text h hi]
 simp
theorem exactL_ok {s:List UInt8} {v:Val} {q:Nat} (h:exactL s= .ok v q):mayV v 1=0∧inV v∧v.bulk≤6*s.length∧textV v=s:=by
 unfold exactL at h
 split at h
 · cases h
 · rename_i v' q' hp
   split at h
   · rename_i ht
     cases h
     obtain⟨h1,_,h2,h3⟩:=parse_may hp
     exact⟨h1,h3,h2,ht⟩
   · cases h
theorem exactL_bad0 {s:List UInt8} {c:Int} {q:Nat} (h:c=0):exactL s≠ .bad c q:=by
 intro e
 unfold exactL at e
 split at e
 · rename_i hp
   cases e
   have:=parse_bad hp
   omega
 · split at e
   · cases e
   · cases e
     omega
def u64I (n:Int):Int:=n % 18446744073709551616
theorem u64I_id {n:Int} (h0:0≤n) (h1:n≤4611686018427387903):u64I n=n:=Int.emod_eq_of_lt h0 (by omega)
def numsE (names:List ByteArray) (m:Nat) (v:Val):Int:=
 if kindV v≠6 then 9 else if(objV' v).map (·.1)≠names then 10 else if((objV' v).take m).all (fun p=>decide (kindV p.2=3))then 0 else 9
def numsL (m:Nat) (v:Val):List Int:=((objV' v).take m).map fun p=>u64I (intV' p.2)
theorem numsE_nine {names:List ByteArray} {m:Nat} {v:Val} (h:kindV v≠6):numsE names m v=9:=by
 unfold numsE
 rw[if_pos h]
def reqOf (v:Val):Int×Int×Int:=
 if numsE [kClient,kCookie] 2 v≠0 then(numsE [kClient,kCookie] 2 v,0,0)else
 match numsL 2 v with
 | [c,k]=>if mayReq c k=0 then(0,c,k)else(mayReq c k,0,0)
 |_=>(10,0,0)
theorem reqOf_obj {c k:Int} (h0:0≤c) (h1:0≤k) (h:mayReq c k=0):reqOf (ov (reqO c k))=(0,c,k):=by
 have hb:c≤4611686018427387903∧k≤4611686018427387903:=by
  unfold mayReq at h
  split at h
  · omega
  · cases h
 have e:numsE [kClient,kCookie] 2 (ov (reqO c k))=0:=by
  unfold numsE
  rw[if_neg (fun h=>h rfl),if_neg (fun h=>h rfl),if_pos (by simp[objV',ov,reqO,kindV,iv])]
 have l:numsL 2 (ov (reqO c k))= [u64I c,u64I k]:=rfl
 unfold reqOf
 rw[e,l,u64I_id h0 hb.1,u64I_id h1 hb.2]
 simp only
 rw[if_neg (by omega),if_pos h]
def decReq (b:List UInt8):Int×Int×Int:=
 if bodyE 2 b≠0 then(bodyE 2 b,0,0)else match exactL (bodyB b)with
 | .bad c _=>(c,0,0)
 | .ok v _=>reqOf v
theorem decReq_frame {c k:Int} (h0:0≤c) (h1:0≤k) (h:mayReq c k=0) (hv:mayV (ov (reqO c k)) 1=0) (hi:inV (ov (reqO c k))):decReq (sealL (2::textV (ov (reqO c k))))=(0,c,k):=by
 unfold decReq
 rw[bodyE_seal (by decide),if_neg (by omega),bodyB_seal,exactL_text hv hi]
 exact reqOf_obj h0 h1 h
end Go.Proofs.YtackmnbpfbaemaaGreatDoor

namespace Go.Proofs.YtackmnbpfbaemaaGreatDoor
open Go Go.RowKit
structure Says (t:TypeId) (m:Value) (n:Nat) (F:ByteArray→Value) (W:World):Prop where
 look: ∀k,(Instr.lookup t m (.string k) false).run Tryz.prog W= .ok (F k) W
 len: ∀ty,(Builtin.len_ #[t] ty #[m]).run Tryz.prog W= .ok (goInt n) W
theorem entsM_len {α:Type} {f:α→Value}: ∀(kv:List (α×Value)) (i:Nat),(entsM f kv i).length=kv.length
 | [],_=>rfl
 |(_,_)::r,i=>by simp[entsM,entsM_len r (i+1)]
theorem zero_ptr (w:World):(zeroValue 104).run Tryz.prog w= .ok (.pointer none) w:=by kernel_rfl
theorem zero_fun (w:World):(zeroValue 114).run Tryz.prog w= .ok .nilFunc w:=by kernel_rfl
theorem LookIs.len {g n:Nat} {F:ByteArray→Option Value} {W:World} (h:LookIs W g n F) (t ty:TypeId) (hu:Tryz.prog.underlying t=some (.map (Program.mapKeyOf Tryz.prog t) (Program.mapElemOf Tryz.prog t))):(Builtin.len_ #[t] ty #[.map (some g)]).run Tryz.prog W= .ok (goInt n) W:=by
 obtain⟨kv,h1,h2,_⟩:=h
 have:=run_len_map (P:=Tryz.prog) W t ty g _ _ hu h1
 rw[this,List.size_toArray,entsM_len,h2]
theorem says_nums {g n:Nat} {F:ByteArray→Option Value} {W:World} (h:LookIs W g n F):Says 101 (.map (some g)) n (fun k=>(F k).getD (.pointer none)) W:=
 ⟨fun k=>run_lookL mkey_str Tryz.underlying101 h k zero_ptr false,fun ty=>h.len 101 ty (by kernel_rfl)⟩
theorem says_none (W:World):Says 103 (.map none) 0 (fun _=> .nilFunc) W:=by
 have hu:Tryz.prog.underlying 103=some (.map (Program.mapKeyOf Tryz.prog 103) (Program.mapElemOf Tryz.prog 103)):=by kernel_rfl
 refine⟨fun k=> ?_,fun ty=> ?_⟩
 · have hc:=fun e=>mkey_str.check e W k
   obtain⟨d,hd,_⟩:=mkey_str.under
   have hfk:(Instr.findKey 9 (.string k) []).run Tryz.prog W= .ok none W:=by simp[Instr.findKey,run_underlying hd,Instr.findNow]
   unfold Instr.lookup
   simp[Sem.run_bind,run_underlying (P:=Tryz.prog) Tryz.underlying103,Result.andThen,zero_fun W,hc,hfk]
 · have:=run_len_nilMap (P:=Tryz.prog) (w:=W) 103 ty hu
   simpa using this
theorem memP_at {w:World} {B n c:Nat} {l:List (ByteArray×Val)} {a:Option Addr} (h:Holds w B (.row 7 (dO l)) [.slice a n c]) {q:Nat} {key:ByteArray} {k':Int} {b':Bool} {n':Int} {t':ByteArray} {l':List Val} {o':List (ByteArray×Val)} (hi:l[q]? =some (key, .mk k' b' n' t' l' o')):
 ∃g off,a=some ⟨g,off,none⟩∧g<B∧ ∃la lc oa oc,Holds w B (dV (.mk k' b' n' t' l' o')) [.int .i64 k', .bool b', .int .i64 n', .string t', .slice la l'.length lc, .slice oa o'.length oc]∧
  w.cell? ⟨g,off+q*7,none⟩=some (.string key)∧w.cell? ⟨g,off+q*7+1,none⟩=some (.int .i64 k')∧w.cell? ⟨g,off+q*7+2,none⟩=some (.bool b')∧
  w.cell? ⟨g,off+q*7+3,none⟩=some (.int .i64 n')∧w.cell? ⟨g,off+q*7+4,none⟩=some (.string t')∧w.cell? ⟨g,off+q*7+5,none⟩=some (.slice la l'.length lc)∧w.cell? ⟨g,off+q*7+6,none⟩=some (.slice oa o'.length oc):=by
 obtain⟨g,off,ea,hg,cs,h1,_,h3⟩:=h.at_ (i:=q) (d:=dP (key, .mk k' b' n' t' l' o')) (by rw[dO_map,List.getElem?_map,hi];rfl)
 unfold dP at h1
 simp only[Holds]at h1
 obtain⟨_,_,rfl,⟨rfl,_⟩,cv,_,rfl,h4,rfl⟩:=h1
 have h6:=holdsV_of _ _ h4
 simp only[HoldsV]at h6
 obtain⟨la,lc,oa,oc,rfl,_,_⟩:=h6
 exact⟨g,off,ea,hg,la,lc,oa,oc,h4,h3 0 _ rfl,h3 1 _ rfl,h3 2 _ rfl,h3 3 _ rfl,h3 4 _ rfl,h3 5 _ rfl,h3 6 _ rfl⟩
theorem obj_row {w:World} {B:Nat} {k':Int} {b':Bool} {n':Int} {t':ByteArray} {l':List Val} {o':List (ByteArray×Val)} {x0 x1 x2 x3 x4 oa:Value} (h:Holds w B (dV (.mk k' b' n' t' l' o')) [x0,x1,x2,x3,x4,oa]):Holds w B (.row 7 (dO o')) [oa]:=by
 have h':HoldsA w B [.leaf (.int .i64 k'), .leaf (.bool b'), .leaf (.int .i64 n'), .leaf (.string t'), .row 6 (dL l'), .row 7 (dO o')] [x0,x1,x2,x3,x4,oa]:=by
  unfold dV Holds at h
  exact h
 obtain⟨c4,c5,e,_,_,_,_,h4,h5⟩:=HoldsA.six.1 h'
 have l4:=h4.len.1
 have l5:=h5.len.1
 match c4,l4,c5,l5,e with
 | [u],_, [v],_,e=>
   simp only[List.cons_append,List.nil_append,List.cons.injEq,and_true]at e
   obtain⟨_,_,_,_,_,rfl⟩:=e
   exact h5
theorem wrap_u64 (n:Int):IntKind.u64.wrap n=u64I n:=by
 have h1:IntKind.u64.bits=64:=rfl
 have h2:IntKind.u64.signed=false:=rfl
 simp[IntKind.wrap,h1,h2,u64I]
structure FI (w:World) (X:Nat) (T:TypeId) (xs:Array Value) (V0:Nat) (six:Array Value) (wr:World):Prop where
 grown:w.grownBy wr (some X)
 blk:Blk wr X T xs
 box:Blk wr V0 39 six
 ne:V0≠X
theorem FI.alloc {w wr:World} {X V0:Nat} {T:TypeId} {xs six:Array Value} (h:FI w X T xs V0 six wr) (o:Obj):FI w X T xs V0 six (wr.alloc o):=⟨grownBy_alloc h.grown o,h.blk.alloc o,h.box.alloc o,h.ne⟩
theorem FI.set {w wr:World} {X V0:Nat} {T:TypeId} {xs six:Array Value} (h:FI w X T xs V0 six wr) (i:Nat) (u:Value):FI w X T (xs.setIfInBounds i u) V0 six (wr.setCell ⟨X,i,none⟩ u):=
 ⟨grownBy_set h.grown _ (.inl rfl) u,h.blk.set_ i u,h.box.far h.ne _,h.ne⟩
theorem fresh_since {b X:Nat} {w wr:World} {d:D} {cs:List Value} (h:Fresh b w d cs) (hX:X<b) (hg:w.grownBy wr (some X)):Fresh b wr d cs:=
 h.keep (Nat.le_refl _) hg.size fun p p1 p2=>World.cell?_of_block (hg.block p.block p2 (by intro e;cases e;omega))
end Go.Proofs.YtackmnbpfbaemaaGreatDoor

namespace Go.Proofs.YtackmnbpfbaemaaGreatDoor
open Go Go.RowKit
abbrev reqNs:List ByteArray:= [kClient,kCookie]
def offQ (k:ByteArray):Option Nat:=if k=kClient then some 0 else if k=kCookie then some 1 else none
def npQ (X:Nat) (k:ByteArray):Option Addr:=(offQ k).map fun i=>⟨X,i,none⟩
def fillM:List (ByteArray×Val)→Array Value→Array Value
 | [],xs=>xs
 |p::r,xs=>fillM r (match offQ p.1 with|some i=>xs.setIfInBounds i (.int .u64 (u64I (intV' p.2)))|none=>xs)
theorem fillM_app: ∀(a:List (ByteArray×Val)) (p:ByteArray×Val) (xs:Array Value),fillM (a++ [p]) xs=match offQ p.1 with|some i=>(fillM a xs).setIfInBounds i (.int .u64 (u64I (intV' p.2)))|none=>fillM a xs
 | [],p,xs=>rfl
 |q::a,p,xs=>by
  show fillM (a++ [p]) _=_
  rw[fillM_app a p]
  rfl
theorem fillM_size: ∀(l:List (ByteArray×Val)) (xs:Array Value),(fillM l xs).size=xs.size
 | [],_=>rfl
 |p::r,xs=>by
  unfold fillM
  rw[fillM_size r]
  split<;>simp
theorem offQ_out {k:ByteArray} (h:k ∉ reqNs):offQ k=none:=by
 simp only[List.mem_cons,List.not_mem_nil,or_false,not_or]at h
 unfold offQ
 simp only[h,if_false]
theorem offQ_in {k:ByteArray} (h:k ∈ reqNs): ∃i,offQ k=some i:=by
 simp only[List.mem_cons,List.not_mem_nil,or_false]at h
 rcases h with rfl|rfl
 · exact⟨0,by decide+kernel⟩
 · exact⟨1,by decide+kernel⟩
theorem reqNs_asc:ascK reqNs:=by
 unfold ascK reqNs
 simp only[List.pairwise_cons,List.mem_cons,List.not_mem_nil,or_false,forall_eq,List.Pairwise.nil,and_true,false_implies,implies_true]
 decide+kernel
def FillPostQ (v:Val) (X:Nat) (w:World) (e:Ending) (w':World):Prop:=w.grownBy w' (some X)∧e= .returned (.int .i64 (numsE reqNs 2 v))∧
 (numsE reqNs 2 v=0→ ∃xc xk,objV' v= [(kClient,xc),(kCookie,xk)]∧Blk w' X 24 #[.int .u64 (u64I (intV' xc)), .int .u64 (u64I (intV' xk))])
theorem FillPostQ.no {v:Val} {X:Nat} {w w':World} {c:Int} (h:numsE reqNs 2 v=c) (hc:c≠0) (hg:w.grownBy w' (some X)):FillPostQ v X w (.returned (.int .i64 c)) w':=
 ⟨hg,by rw[h],fun e=>absurd (h.symm.trans e) hc⟩
theorem numsQ_ten {v:Val} (hk:kindV v=6) (h:(objV' v).map (·.1)≠reqNs):numsE reqNs 2 v=10:=by
 unfold numsE
 rw[if_neg (by omega),if_pos h]
theorem req_two: ∀{o:List (ByteArray×Val)},o.map (·.1)=reqNs→ ∃xc xk,o= [(kClient,xc),(kCookie,xk)]
 | [(a0,xc),(a1,xk)],h=>by
   simp only[List.map_cons,List.map_nil,List.cons.injEq,and_true]at h
   obtain⟨rfl,rfl⟩:=h
   exact⟨xc,xk,rfl⟩
 | [],h=>by cases h
 | [_],h=>by simp at h
 |_::_::_::_,h=>by simp at h
theorem numsQ_nine {v:Val} (hk:kindV v=6) (h:(objV' v).map (·.1)=reqNs) {p:ByteArray×Val} (hp:p ∈ objV' v) (h3:kindV p.2≠3):numsE reqNs 2 v=9:=by
 unfold numsE
 rw[if_neg (by omega),if_neg (by simpa using h),if_neg]
 intro ha
 obtain⟨xc,xk,e⟩:=req_two h
 rw[e]at hp ha
 have ha':=List.all_eq_true.1 ha p
 simp only[decide_eq_true_eq]at ha'
 exact h3 (ha' hp)
theorem numsQ_all {v:Val} (hk:kindV v=6) (h:(objV' v).map (·.1)=reqNs) (ha: ∀p ∈ objV' v,offQ p.1≠none→kindV p.2=3):numsE reqNs 2 v=0:=by
 unfold numsE
 rw[if_neg (by omega),if_neg (by simpa using h),if_pos]
 refine List.all_eq_true.2 fun p hp=>decide_eq_true (ha p (List.mem_of_mem_take hp) ?_)
 have hm:p.1 ∈ reqNs:=by rw[←h];exact List.mem_map.2 ⟨p,List.mem_of_mem_take hp,rfl⟩
 obtain⟨i,e⟩:=offQ_in hm
 rw[e]
 simp
theorem offQ_lt (k:ByteArray) (i:Nat) (h:offQ k=some i):i<2:=by
 unfold offQ at h
 split at h
 · cases h;omega
 split at h
 · cases h;omega
 · cases h
theorem fillM_two (xc xk:Val) (a0 a1:Value):fillM [(kClient,xc),(kCookie,xk)] #[a0,a1]= #[.int .u64 (u64I (intV' xc)), .int .u64 (u64I (intV' xk))]:=by
 have h0:offQ kClient=some 0:=by decide+kernel
 have h1:offQ kCookie=some 1:=by decide+kernel
 simp only[fillM,h0,h1]
 rfl
set_option maxRecDepth 100000 in
set_option maxHeartbeats 16000000 in
theorem fillQ_calls (k':Int) (b':Bool) (n':Int) (t':ByteArray) (l':List Val) (o':List (ByteArray×Val)) (la lc oa oc) (X b:Nat) (nV oV:Value) (a0 a1:Value) (w:World)
 (hf:Fresh b w (dV (.mk k' b' n' t' l' o')) [.int .i64 k', .bool b', .int .i64 n', .string t', .slice la l'.length lc, .slice oa o'.length oc]) (hXb:X<b) (ho:ascO o') (_hl:o'.length≤100000000)
 (hN: ∀W,w.grownBy W (some X)→Says 101 nV 2 (fun k=> .pointer (npQ X k)) W) (hO: ∀W,w.grownBy W (some X)→Says 103 oV 0 (fun _=> .nilFunc) W)
 (hX:Blk w X 24 #[a0,a1]):
 Calls Tryz.prog 51 #[.agg #[.int .i64 k', .bool b', .int .i64 n', .string t', .slice la l'.length lc, .slice oa o'.length oc],nV,oV] w (FillPostQ (.mk k' b' n' t' l' o') X w):=by
 have hI0:FI w X 24 #[a0,a1] w.heap.size #[.int .i64 k', .bool b', .int .i64 n', .string t', .slice la l'.length lc, .slice oa o'.length oc] (w.alloc (.cells #[.int .i64 k', .bool b', .int .i64 n', .string t', .slice la l'.length lc, .slice oa o'.length oc] 39)):=
  ⟨grownBy_alloc (World.grownBy.refl _ _) _,hX.alloc _,Blk.new _ _ _,by have:=hX.lt;omega⟩
 have hP9:k'≠6→ ∀W,w.grownBy W (some X)→FillPostQ (.mk k' b' n' t' l' o') X w (.returned (.int .i64 9)) W:=fun hk W hg=>FillPostQ.no (numsE_nine hk) (by omega) hg
 by_cases hk:k'=6
 rotate_left
 · have e1:(k' != 6)=true:=by simpa using hk
   have hP:=hP9 hk _ hI0.grown
   have HP:=Lib.hid hP
   clear hP
   clear hP9 hk hI0 hN hO hX ho hf
   go_enter Tryz.func51,Tryz.ntmps51
   go_wp2
   go_ret
   exact HP.out
 subst hk
 have hSN0:=hN _ hI0.grown
 have hSO0:=hO _ hI0.grown
 have n0:=hSN0.len
 have n1:=hSO0.len
 have hP10: ∀W,o'.map (·.1)≠reqNs→w.grownBy W (some X)→FillPostQ (.mk 6 b' n' t' l' o') X w (.returned (.int .i64 10)) W:=fun W h hg=>FillPostQ.no (numsQ_ten (v:= .mk 6 b' n' t' l' o') rfl h) (by omega) hg
 by_cases hln:o'.length=2
 rotate_left
 · have e1:((o'.length:Int) != 2)=true:=by simp;omega
   have hP:=hP10 _ (fun e=>hln (by have:=congrArg List.length e;simpa using this)) hI0.grown
   have HP:=Lib.hid hP
   clear hP
   clear hP9 hP10 hI0 hN hO hX ho hf hSN0 hSO0
   go_enter Tryz.func51,Tryz.ntmps51
   go_wp2
   go_ret
   exact HP.out
 rw[hln]at hf hI0 n0 n1 ⊢
 have hs0: ∀p ∈ o'.take 0,p.1 ∈ reqNs:=by simp
 have hgr0:=hX.lt
 have HP9:=Lib.hid hP9
 have HP10:=Lib.hid hP10
 have HI0:=Lib.hid hI0
 have HN:=Lib.hid hN
 have HO:=Lib.hid hO
 have Hf:=Lib.hid hf
 have Hs0:=Lib.hid hs0
 have HSN0:=Lib.hid hSN0
 have HSO0:=Lib.hid hSO0
 clear hP9 hP10 hI0 hN hO hf hs0 hSN0 hSO0
 clear hX
 go_enter Tryz.func51,Tryz.ntmps51
 go_wp2_with (fail)
 go_loopw [31] (fun i wr=> ∃q:Nat,i= .int .i64 q∧q≤2∧Hid (∀p ∈ o'.take q,p.1 ∈ reqNs)∧Hid (FI w X 24 #[a0,a1] w.heap.size #[.int .i64 6, .bool b', .int .i64 n', .string t', .slice la l'.length lc, .slice oa 2 oc] wr)) (fun i _=>2 - (intOf i).toNat)
 case atStart=>exact⟨0,rfl,Nat.zero_le _,Hs0,HI0⟩
 case round=>
  obtain⟨q,rfl,hq,hin,hI⟩:=hrel
  clear HI0 Hs0 HSN0 HSO0
  have hq0:(0:Int)≤q:=by omega
  by_cases hlt:q<2
  · obtain⟨p,hp⟩: ∃p,o'[q]? =some p:=⟨_,List.getElem?_eq_getElem (by omega)⟩
    obtain⟨key,⟨pk,pb,pn,pt,pl,po⟩⟩:=p
    have hfr:=fresh_since Hf.out hXb hI.out.grown
    obtain⟨g,off,rfl,hg,pla,plc,poa,poc,hv,c0,c1,c2,c3,c4,c5,c6⟩:=memP_at (obj_row hfr.now) hp
    have hq1:(q:Int)<2:=by omega
    have htk:o'.take (q+1)=o'.take q++ [(key, .mk pk pb pn pt pl po)]:=by rw[List.take_add_one,hp];simp
    have hIa:=hI.out.alloc (.cells #[.string key, .int .i64 pk, .bool pb, .int .i64 pn, .string pt, .slice pla pl.length plc, .slice poa po.length poc] 63)
    have hmb:=Blk.new wr 63 #[.string key, .int .i64 pk, .bool pb, .int .i64 pn, .string pt, .slice pla pl.length plc, .slice poa po.length poc]
    have lN:=(HN.out _ hIa.grown).look key
    have lO:=(HO.out _ hIa.grown).look key
    have hbx:=hI.out.box
    have b5:=hbx.cell 5
    have b5l:=hbx.lt
    have HIa:=Lib.hid hIa
    have Hmb:=Lib.hid hmb
    have Hv:=Lib.hid hv
    have Hfr:=Lib.hid hfr
    have Hp:=Lib.hid hp
    have Hbx:=Lib.hid hbx
    have Htk:=Lib.hid htk
    clear hIa hmb hv hfr hp hbx htk
    clear hI
    by_cases hkm:key ∈ reqNs
    · have hin':Hid (∀p ∈ o'.take (q+1),p.1 ∈ reqNs):=by
       refine Lib.hid ?_
       rw[Htk.out]
       intro p hp
       rcases List.mem_append.1 hp with h|h
       · exact hin.out p h
       · obtain rfl:=List.mem_singleton.1 h
         exact hkm
      obtain⟨i,e0⟩:=offQ_in hkm
      have e1:npQ X key=some ⟨X,i,none⟩:=by unfold npQ;rw[e0];rfl
      simp only[e1]at lN
      clear hkm
      go_wp2
      go_roundw
      case rel=>exact⟨q+1,by go_num,by omega,hin',HIa⟩
      case measure=>simp only[intOf];omega
    · have e1:npQ X key=none:=by unfold npQ;rw[offQ_out hkm];rfl
      simp only[e1]at lN
      have hP:=HP10.out _ (fun e=>hkm (by rw[←e];exact List.mem_map.2 ⟨_,List.mem_of_getElem? Hp.out,rfl⟩)) HIa.out.grown
      have HP:=Lib.hid hP
      clear hP
      clear hkm
      go_wp2
      rename_i K' hK'
      refine hK' _ _ ?_
      clear hK' K'
      go_wp2
      go_ret
      exact HP.out
  · obtain rfl:q=2:=by omega
    have hall: ∀p ∈ o',p.1 ∈ reqNs:=by
     have:=hin.out
     rwa [List.take_of_length_le (by omega)]at this
    have hmap:=(keys_are ho reqNs_asc).1 ⟨hln,hall⟩
    have hbx:=hI.out.box
    have b5:=hbx.cell 5
    have b5l:=hbx.lt
    have hs0: ∀p ∈ o'.take 0,offQ p.1≠none→kindV p.2=3:=by simp
    have Hall:=Lib.hid hall
    have Hmap:=Lib.hid hmap
    have Hs0:=Lib.hid hs0
    have Hbx:=Lib.hid hbx
    clear hall hmap hs0 hbx
    clear hin HP10
    go_upto_region 12 with(fail)
    go_loopw [51] (fun i wr=> ∃q:Nat,i= .int .i64 q∧q≤2∧Hid (∀p ∈ o'.take q,offQ p.1≠none→kindV p.2=3)∧Hid (FI w X 24 (fillM (o'.take q) #[a0,a1]) w.heap.size #[.int .i64 6, .bool b', .int .i64 n', .string t', .slice la l'.length lc, .slice oa 2 oc] wr)) (fun i _=>2 - (intOf i).toNat)
    case atStart=>exact⟨0,rfl,Nat.zero_le _,Hs0,hI⟩
    case round=>
     obtain⟨q,rfl,hq,hin,hI⟩:=hrel
     clear Hs0
     have hq0:(0:Int)≤q:=by omega
     by_cases hlt:q<2
     · obtain⟨p,hp⟩: ∃p,o'[q]? =some p:=⟨_,List.getElem?_eq_getElem (by omega)⟩
       obtain⟨key,⟨pk,pb,pn,pt,pl,po⟩⟩:=p
       have hfr:=fresh_since Hf.out hXb hI.out.grown
       obtain⟨g,off,rfl,hg,pla,plc,poa,poc,hv,c0,c1,c2,c3,c4,c5,c6⟩:=memP_at (obj_row hfr.now) hp
       have hq1:(q:Int)<2:=by omega
       have htk:o'.take (q+1)=o'.take q++ [(key, .mk pk pb pn pt pl po)]:=by rw[List.take_add_one,hp];simp
       have hIa:=hI.out.alloc (.cells #[.string key, .int .i64 pk, .bool pb, .int .i64 pn, .string pt, .slice pla pl.length plc, .slice poa po.length poc] 63)
       have hmb:=Blk.new wr 63 #[.string key, .int .i64 pk, .bool pb, .int .i64 pn, .string pt, .slice pla pl.length plc, .slice poa po.length poc]
       have lN:=(HN.out _ hIa.grown).look key
       have hkm:=Hall.out _ (List.mem_of_getElem? hp)
       have hmem:=List.mem_of_getElem? hp
       have HIa:=Lib.hid hIa
       have Hmb:=Lib.hid hmb
       have Hv:=Lib.hid hv
       have Hfr:=Lib.hid hfr
       have Hp:=Lib.hid hp
       have Htk:=Lib.hid htk
       have Hmem:=Lib.hid hmem
       clear hIa hmb hv hfr hp htk hmem
       clear hI
       obtain⟨i,e0⟩:=offQ_in hkm
       have e1:npQ X key=some ⟨X,i,none⟩:=by unfold npQ;rw[e0];rfl
       have hi4:=offQ_lt key i e0
       simp only[e1]at lN
       by_cases h3:pk=3
       · subst h3
         have hin':Hid (∀p ∈ o'.take (q+1),offQ p.1≠none→kindV p.2=3):=by
          refine Lib.hid ?_
          rw[Htk.out]
          intro p hp
          rcases List.mem_append.1 hp with h|h
          · exact hin.out p h
          · obtain rfl:=List.mem_singleton.1 h
            exact fun _=>rfl
         have hw:=wrap_u64 pn
         have hIs:=HIa.out.set i (.int .u64 (u64I pn))
         have hI':Hid (FI w X 24 (fillM (o'.take (q+1)) #[a0,a1]) w.heap.size #[.int .i64 6, .bool b', .int .i64 n', .string t', .slice la l'.length lc, .slice (some ⟨g,off,none⟩) 2 oc] ((wr.alloc (.cells #[.string key, .int .i64 3, .bool pb, .int .i64 pn, .string pt, .slice pla pl.length plc, .slice poa po.length poc] 63)).setCell ⟨X,i,none⟩ (.int .u64 (u64I pn)))):=by
          refine Lib.hid ?_
          rw[Htk.out,fillM_app,e0]
          exact hIs
         have hsz:(fillM (o'.take q) #[a0,a1]).size=2:=by rw[fillM_size];rfl
         obtain⟨u,hu⟩: ∃u,(fillM (o'.take q) #[a0,a1])[i]? =some u:=⟨_,Array.getElem?_eq_getElem (by omega)⟩
         have d0:=HIa.out.blk.cell i
         rw[hu]at d0
         have dz:=HIa.out.blk.frozen i
         have dl:=HIa.out.blk.lt
         clear hkm HIa Htk hIs hsz hu
         go_wp2
         go_roundw
         case rel=>exact⟨q+1,by go_num,by omega,hin',hI'⟩
         case measure=>simp only[intOf];omega
       · have e3:(pk != 3)=true:=by simpa using h3
         have hP:=FillPostQ.no (numsQ_nine (v:= .mk 6 b' n' t' l' o') rfl Hmap.out Hmem.out h3) (by omega) HIa.out.grown
         have HP:=Lib.hid hP
         clear hP
         clear hkm h3 HIa Htk
         go_wp2
         go_ret
         exact HP.out
     · obtain rfl:q=2:=by omega
       have hnum:numsE reqNs 2 (.mk 6 b' n' t' l' o')=0:=numsQ_all rfl Hmap.out (by
        have:=hin.out
        rwa [List.take_of_length_le (by omega)]at this)
       have hI2:=hI.out
       rw[List.take_of_length_le (by omega)]at hI2
       have hbx:=hI2.box
       have b5:=hbx.cell 5
       have b5l:=hbx.lt
       have hpost: ∀(W:World) six,FI w X 24 (fillM o' #[a0,a1]) w.heap.size six W→FillPostQ (.mk 6 b' n' t' l' o') X w (.returned (.int .i64 0)) W:=fun W six h=>by
        refine⟨h.grown,by rw[hnum],fun _=> ?_⟩
        obtain⟨xc,xk,e⟩:=req_two Hmap.out
        have:=h.blk
        rw[e,fillM_two]at this
        exact⟨xc,xk,e,this⟩
       have Hnum:=Lib.hid hnum
       have Hbx:=Lib.hid hbx
       have HI2:=Lib.hid hI2
       have Hpost:=Lib.hid hpost
       clear hnum hbx hI2 hpost
       clear hin hI
       go_upto_region 21 with(fail)
       go_loopw [75] (fun i wr=> ∃q:Nat,i= .int .i64 q∧q≤2∧Hid (FI w X 24 (fillM o' #[a0,a1]) w.heap.size #[.int .i64 6, .bool b', .int .i64 n', .string t', .slice la l'.length lc, .slice oa 2 oc] wr)) (fun i _=>2 - (intOf i).toNat)
       case atStart=>exact⟨0,rfl,Nat.zero_le _,HI2⟩
       case round=>
        obtain⟨q,rfl,hq,hI⟩:=hrel
        clear HI2
        have hq0:(0:Int)≤q:=by omega
        by_cases hlt:q<2
        · obtain⟨p,hp⟩: ∃p,o'[q]? =some p:=⟨_,List.getElem?_eq_getElem (by omega)⟩
          obtain⟨key,⟨pk,pb,pn,pt,pl,po⟩⟩:=p
          have hfr:=fresh_since Hf.out hXb hI.out.grown
          obtain⟨g,off,rfl,hg,pla,plc,poa,poc,hv,c0,c1,c2,c3,c4,c5,c6⟩:=memP_at (obj_row hfr.now) hp
          have hq1:(q:Int)<2:=by omega
          have hIa:=hI.out.alloc (.cells #[.string key, .int .i64 pk, .bool pb, .int .i64 pn, .string pt, .slice pla pl.length plc, .slice poa po.length poc] 63)
          have hmb:=Blk.new wr 63 #[.string key, .int .i64 pk, .bool pb, .int .i64 pn, .string pt, .slice pla pl.length plc, .slice poa po.length poc]
          have lO:=(HO.out _ hIa.grown).look key
          have Hmb:=Lib.hid hmb
          have Hv:=Lib.hid hv
          have Hfr:=Lib.hid hfr
          have Hp:=Lib.hid hp
          have HIa:=Lib.hid hIa
          clear hmb hv hfr hp hIa
          clear hI
          go_wp2
          rename_i K' hK'
          refine hK' _ _ ?_
          clear hK' K'
          go_wp2
          go_roundw
          case rel=>
           refine⟨_,_,_,_,_,_,_,_,_,_,_,_,_,_,_,_,_,_,_,_,_,_, ?_,rfl⟩
           exact⟨q+1,by go_num,by omega,HIa⟩
          case measure=>
           change 2 - (intOf (.int .i64 ((q:Int)+1))).toNat<2 - (intOf (.int .i64 (q:Int))).toNat
           simp only[intOf];omega
        · obtain rfl:q=2:=by omega
          have hP:=Hpost.out _ _ hI.out
          have HP:=Lib.hid hP
          clear hP
          clear hI
          go_wp2
          go_ret
          exact HP.out
end Go.Proofs.YtackmnbpfbaemaaGreatDoor

namespace Go.Proofs.YtackmnbpfbaemaaGreatDoor
open Go Go.RowKit
set_option maxRecDepth 100000 in
set_option maxHeartbeats 8000000 in
theorem exact_calls (s:ByteArray) (w:World) (hT0:Tabs w) (hN0:NumT w) (hs:s.size≤100000000):
 Calls Tryz.prog 50 #[.string s] w (ExOut w (exactL s.data.toList)):=by
 have hV:=parse_calls s (w.alloc (.cells zero6 39)) (hT0.below (alloc_below w _)) (hN0.below (alloc_below w _)) hs
 have hTT: ∀W,Below w.heap.size w W→Tabs W:=fun W h=>hT0.below h
 have hB0:=RBx.start w
 obtain⟨RES,hRES⟩: ∃r,exactL s.data.toList=r:=⟨_,rfl⟩
 rw[hRES]
 unfold exactL at hRES
 cases hr:parseL s.data.toList with
 |bad c q=>
  rw[hr]at hV hRES
  simp only at hRES
  subst hRES
  have hc1:(c != 0)=true:=by have:=parse_bad hr;simp only[bne_iff_ne,ne_eq];omega
  clear hr
  have HV:=Lib.hid hV
  have HB0:=Lib.hid hB0
  clear hV hB0
  go_enter Tryz.func50,Tryz.ntmps50
  go_wp2_with (fail)
  with_reducible refine(HV.out).mono ?_
  rintro e w4 ⟨hb4,rfl⟩
  have hI4:=HB0.out.later hb4
  have hxf:=(hI4.many (.int .i64 0) (.bool false) (.int .i64 0) (.string ⟨#[]⟩) (.slice none 0 0) (.slice none 0 0)).later (alloc_below _ (.cells zero6 39))
  obtain⟨r0,r1,r2,r3,r4,r5⟩:=vcell hI4.blk
  have fz4:=hI4.blk.frozen
  have hlt4:=hI4.blk.lt
  have Hxf:=Lib.hid hxf
  have HI4:=Lib.hid hI4
  clear hxf hI4
  clear hb4
  go_wp2
  exact bodyPost_ret (results_cell6_t rfl rfl Hxf.out.blk) rfl ⟨Hxf.out.below,rfl⟩
 |ok v q=>
  rw[hr]at hV hRES
  simp only at hRES
  obtain⟨hm1,hm2,hm3,hm4⟩:=parse_may hr
  obtain⟨k',b',n',t',l',o'⟩:=v
  have hT:=fun cs W hW h=>Text_calls (.mk k' b' n' t' l' o') cs W (hTT W hW) h (by rw[size_toList]at hm3;omega) hm4
  rw[hm1]at hT
  have htS:textS (.mk k' b' n' t' l' o')=⟨(textV (.mk k' b' n' t' l' o')).toArray⟩:=by unfold textS;rw[if_pos hm1]
  rw[htS]at hT
  clear hr hm1 hm2 hm3 hm4 htS hTT
  have hcmp:=ba_eq_of (t:=textV (.mk k' b' n' t' l' o')) (s:=s)
  generalize textV (.mk k' b' n' t' l' o')=TT at hcmp hRES hT
  have HV:=Lib.hid hV
  have HB0:=Lib.hid hB0
  have HT:=Lib.hid hT
  have HRES:=Lib.hid hRES
  clear hV hB0 hT hRES
  go_enter Tryz.func50,Tryz.ntmps50
  go_wp2_with (fail)
  with_reducible refine(HV.out).mono ?_
  rintro e w4 ⟨hb4,cs,rfl,hf4⟩
  obtain⟨la4,lc4,oa4,oc4,rfl⟩:=six_now hf4
  have hI4:=HB0.out.later hb4
  have hz4:=hb4.size
  have hI5:=hI4.later (alloc_below w4 (.cells #[.int .i64 k', .bool b', .int .i64 n', .string t', .slice la4 l'.length lc4, .slice oa4 o'.length oc4] 39))
  have hf5:=hf4.later (alloc_below w4 (.cells #[.int .i64 k', .bool b', .int .i64 n', .string t', .slice la4 l'.length lc4, .slice oa4 o'.length oc4] 39))
  have hx5:=Blk.new w4 39 #[.int .i64 k', .bool b', .int .i64 n', .string t', .slice la4 l'.length lc4, .slice oa4 o'.length oc4]
  have hT5:=HT.out _ _ (((alloc_below w _).trans (hb4.mono (by simp))).trans ((alloc_below w4 (.cells #[.int .i64 k', .bool b', .int .i64 n', .string t', .slice la4 l'.length lc4, .slice oa4 o'.length oc4] 39)).mono (by have:=hb4.size;simp at this;omega))) (holdsV_of _ _ hf5.now)
  have HI4:=Lib.hid hI4
  have Hf4:=Lib.hid hf4
  have HI5:=Lib.hid hI5
  have Hf5:=Lib.hid hf5
  have Hx5:=Lib.hid hx5
  have HT5:=Lib.hid hT5
  clear hI4 hf4 hI5 hf5 hx5 hT5
  clear hb4
  obtain⟨r0,r1,r2,r3,r4,r5⟩:=vcell HI5.out.blk
  have fz5:=HI5.out.blk.frozen
  have hlt5:=HI5.out.blk.lt
  obtain⟨x0,x1,x2,x3,x4,x5⟩:=vcell Hx5.out
  have hltx:=Hx5.out.lt
  go_wp2_with (fail)
  generalize w4.alloc (.cells #[.int .i64 k', .bool b', .int .i64 n', .string t', .slice la4 l'.length lc4, .slice oa4 o'.length oc4] 39)=w5 at HI5 Hf5 Hx5 HT5 r0 r1 r2 r3 r4 r5 fz5 hlt5 x0 x1 x2 x3 x4 x5 hltx ⊢
  with_reducible refine(HT5.out).mono ?_
  rintro e w6 ⟨rfl,hb6⟩
  have hI6:=HI5.out.later hb6
  have hf6:=Hf5.out.later hb6
  have hx6:=Hx5.out.below hb6 Hx5.out.lt
  obtain⟨z0,z1,z2,z3,z4,z5⟩:=vcell hI6.blk
  have fz6:=hI6.blk.frozen
  have hlt6:=hI6.blk.lt
  obtain⟨y0,y1,y2,y3,y4,y5⟩:=vcell hx6
  have hs6:=hb6.size
  have hRES:=HRES.out
  clear HRES r0 r1 r2 r3 r4 r5 x0 x1 x2 x3 x4 x5 fz5
  by_cases ht:TT=s.data.toList
  · rw[if_pos ht]at hRES
    rw[decide_eq_true ht]at hcmp
    subst hRES
    have hxf:=hI6.many (.int .i64 k') (.bool b') (.int .i64 n') (.string t') (.slice la4 l'.length lc4) (.slice oa4 o'.length oc4)
    have hff:=hf6.keep (b':=w.heap.size) (w':=setMany w6 w.heap.size 0 [.int .i64 k', .bool b', .int .i64 n', .string t', .slice la4 l'.length lc4, .slice oa4 o'.length oc4]) (by simp) (by rw[setMany_size];exact Nat.le_refl _) (fun p p1 p2=>World.cell?_of_block (setMany_far _ _ _ _ _ (by have p1':(w.alloc (.cells zero6 39)).heap.size≤p.block:=p1;simp at p1';omega)))
    have hne:(TT != s.toList)=false:=by rw[bne,hcmp];rfl
    have Hxf:=Lib.hid hxf
    have Hff:=Lib.hid hff
    have HI6:=Lib.hid hI6
    have Hf6:=Lib.hid hf6
    have Hx6:=Lib.hid hx6
    have Ht:=Lib.hid ht
    clear hxf hff hI6 hf6 hx6 ht
    clear hb6
    go_wp2
    exact bodyPost_ret (results_cell6_t rfl rfl Hxf.out.blk) rfl ⟨Hxf.out.below,⟨_,rfl,Hff.out⟩⟩
  · rw[if_neg ht]at hRES
    rw[decide_eq_false ht]at hcmp
    subst hRES
    have hxf:=hI6.many (.int .i64 0) (.bool false) (.int .i64 0) (.string ⟨#[]⟩) (.slice none 0 0) (.slice none 0 0)
    have hne:(TT != s.toList)=true:=by rw[bne,hcmp];rfl
    have Hxf:=Lib.hid hxf
    have HI6:=Lib.hid hI6
    have Hf6:=Lib.hid hf6
    have Hx6:=Lib.hid hx6
    have Ht:=Lib.hid ht
    clear hxf hI6 hf6 hx6 ht
    clear hb6
    go_wp2
    exact bodyPost_ret (results_cell6_t rfl rfl Hxf.out.blk) rfl ⟨Hxf.out.below,rfl⟩
end Go.Proofs.YtackmnbpfbaemaaGreatDoor
