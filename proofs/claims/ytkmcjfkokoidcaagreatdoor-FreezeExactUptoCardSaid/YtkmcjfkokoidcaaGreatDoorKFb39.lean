/- Parts: Two keys, as the walk's simp asks of them. Plain. No condition. -/
import Derived.StillTailTactics
import Derived.Test.YtkmcjfkokoidcaaGreatDoorKFb36
set_option maxHeartbeats 20000000
set_option maxRecDepth 100000
namespace Go.Proofs.YtkmcjfkokoidcaaGreatDoor
open Go Go.RowKit
theorem P3.grown {w W W':World} {a:Array Value} {vb vc:Value} {R:Nat} (h:P3 w W a vb vc) (t:W.grownBy W' (some R)) (hR:w.heap.size+3<=R):P3 w W' a vb vc:=
 ⟨h.below.grown t h.below.size (fun r e=>by have:=Option.some.inj e;omega),h.blkA.grown t (fun e=>by have:=Option.some.inj e;omega),h.blkB.grown t (fun e=>by have:=Option.some.inj e;omega),h.blkC.grown t (fun e=>by have:=Option.some.inj e;omega)⟩
theorem P3.new (w:World):P3 w (((w.alloc (.cells A5 37)).alloc (.cells #[.int .i64 0] 3)).alloc (.cells #[.int .i64 0] 30)) A5 (.int .i64 0) (.int .i64 0):=
 ⟨((Aa w _).alloc (by simp) _).alloc (by simp;omega) _,((Aj.new w _ _).alloc _).alloc _,by simpa using(Aj.new (w.alloc (.cells A5 37)) 3 #[.int .i64 0]).alloc (.cells #[.int .i64 0] 30),by simpa using Aj.new ((w.alloc (.cells A5 37)).alloc (.cells #[.int .i64 0] 3)) 30 #[.int .i64 0]⟩
theorem Ab7 {B:Nat} {w4 w6 w7:World} {R:Nat} {d:D} {cs:List Value} (hf:Br w4.heap.size w6 d cs) (_h6:w4.heap.size<=w6.heap.size) (h7:w6.grownBy w7 (some R)) (hR:R<w4.heap.size) (hw:B+3<=w4.heap.size) (vs:List Value) (v1 v2:Value):
 Br B (((An w7 B 0 vs).setCell ⟨B+1,0,none⟩ v1).setCell ⟨B+1+1,0,none⟩ v2).drew d cs:=by
 have z7:=h7.size;have e9:((((An w7 B 0 vs).setCell ⟨B+1,0,none⟩ v1).setCell ⟨B+1+1,0,none⟩ v2).drew).heap.size=w7.heap.size:=by
  have:=Bb vs w7 B 0;simpa[World.setCell]using this
 refine hf.keep (b':=B) (by omega) (by rw[e9];exact z7) (fun a p1 p2=>World.cell?_of_block ?_);rw[<-h7.block a.block p2 (by intro e;have:=Option.some.inj e;omega)];show(((An w7 B 0 vs).setCell ⟨B+1,0,none⟩ v1).setCell ⟨B+1+1,0,none⟩ v2).heap[a.block]? =_;exact(Below.heap_setCell _ _ _ _ (by simp;omega)).trans ((Below.heap_setCell _ _ _ _ (by simp;omega)).trans (Ar _ w7 B 0 a.block (by omega)))
theorem Xu (s:ByteArray) (w:World) (hT:B3 w) (hN:Mw w) (hs:s.size<=100000000):
 Calls Tryz.prog 48 #[.string s] w (Fw w (Ej s.data.toList)):=by
 have hmf: ∀(fn:Fn) (first cap:Array Value) (w:World),(Instr.makeFunc fn first cap).run Tryz.prog w=.ok (.func fn first cap) w:=fun _ _ _ _=>rfl;have hP0:=P3.new w;have hz3:(((w.alloc (.cells A5 37)).alloc (.cells #[.int .i64 0] 3)).alloc (.cells #[.int .i64 0] 30)).heap.size=w.heap.size+3:=by simp
 obtain⟨w3,hw3⟩: ∃w3,((w.alloc (.cells A5 37)).alloc (.cells #[.int .i64 0] 3)).alloc (.cells #[.int .i64 0] 30)=w3:=⟨_,rfl⟩;rw[hw3]at hP0 hz3;have hNR:=Qe s w3;have hV:=Ade w3 (hT.below hP0.below) (hN.below hP0.below) w3.heap.size (w3.heap.size+1) s hs (4*s.data.toList.length+4);obtain⟨R,hR⟩: ∃R,w3.heap.size=R:=⟨_,rfl⟩;rw[hR]at hNR hV;have hRw:w.heap.size+3<=R:=by omega
 clear hz3;have hwi:=(Dn (4*s.data.toList.length+4)).1 s.data.toList 0 1 (Nat.zero_le _);obtain⟨RES,hRES⟩: ∃r,Ej s.data.toList=r:=⟨_,rfl⟩;rw[hRES];unfold Ej at hRES;have hV0:=fun(w4:World) h=>hV w4 0 1 h (Nat.zero_le _) (by rw[Ab];omega) (by omega) (by omega)
 cases hr:Bi (4*s.data.toList.length+4) s.data.toList 0 1 with
 |bad c q=>
  rw[hr]at hRES hV0;simp only at hRES;subst hRES;clear hV hr hwi;obtain⟨HP0,HV0,HNR⟩:=hid3 hP0 hV0 hNR;clear hP0 hV0 hNR
  go_enter_defers Tryz.func48,Tryz.ntmps48
  go_wp2_with (fail);(with_reducible refine(HNR.out).mono ?_);rintro e w4 ⟨rfl,hnr⟩;have HP4:=qz (HP0.out.later hnr.below);have hI4:RdI w3 w4 R (R+1) s 0:=⟨hnr.below,by omega,by have:=hnr.blk;rw[hR]at this;exact this,by have:=hnr.map;rw[hR]at this;exact this⟩;have HV4:=qz (HV0.out w4 hI4);have HI4:=qz hI4;clear hI4;clear hnr hw3;go_wp2_with (fail);(with_reducible refine(HV4.out).mono ?_);rintro e w5 ⟨rfl,hg5⟩;have hP5:=HP4.out.grown hg5 (by omega);simp only[Ju];go_wp2;refine leaves_cons (f:=83) (args:= #[.pointer (some ⟨w.heap.size,0,none⟩),.pointer (some ⟨w.heap.size+1,0,none⟩),.pointer (some ⟨w.heap.size+2,0,none⟩)]) (by simp) (by simp[go_sem]) ?_;refine(Pl w w5 _ _ _ _ _ _ _ _ c (q:Nat) hP5).mono ?_;rintro e u' w6 ⟨rfl,rfl,hP6⟩;have d0:=hP6.blkA.cell 0;obtain⟨d0,d1,d2,d3,d4,d5⟩:=Az hP6.blkA;have d6:=hP6.blkB.cell 0;have d7:=hP6.blkC.cell 0;simp[Leaves,settle,results,Tryz.results48,go_sem,d0,d1,d2,d3,d4,d5,d6,d7];exact⟨hP6.below,rfl⟩
 |ok v q=>
  rw[hr]at hRES hV0 hwi;simp only at hRES;obtain⟨hw1,hw2⟩:=hwi;rw[Ab]at hw2;have hp:=Bp hw2;obtain⟨kv,bv,nv,tv,lv,ov⟩:=v;clear hV hr;obtain⟨HP0,HV0,HNR,HRES⟩:=hid4 hP0 hV0 hNR hRES;clear hP0 hV0 hNR hRES
  go_enter_defers Tryz.func48,Tryz.ntmps48
  go_wp2_with (fail);(with_reducible refine(HNR.out).mono ?_);rintro e w4 ⟨rfl,hnr⟩;have HP4:=qz (HP0.out.later hnr.below);have hI4:RdI w3 w4 R (R+1) s 0:=⟨hnr.below,by omega,by have:=hnr.blk;rw[hR]at this;exact this,by have:=hnr.map;rw[hR]at this;exact this⟩;have hV4:=HV0.out w4 hI4;have hRlt:R<w4.heap.size:=Aj.lt hI4.rd;have hz4:w.heap.size+3<=w4.heap.size:=by have:=hnr.below.size;omega
  obtain⟨HI4,HV4⟩:=hid2 hI4 hV4;clear hI4 hV4;clear hnr hw3 HNR HV0;go_wp2_with (fail);(with_reducible refine(HV4.out).mono ?_);rintro e w5 ⟨⟨cs,rfl,hf5⟩,h5⟩;obtain⟨la,lc,oa,oc,rfl⟩:=Dp hf5;have hP5:=HP4.out.grown h5.1 (by omega);have hz5:=h5.1.size;obtain⟨x0,x1,x2,x3,x4,x5⟩:=Az hP5.blkA;have fx:=hP5.blkA.frozen;have lx:=hP5.blkA.lt;have hP6:P3 w ((((((w5.setCell ⟨w.heap.size,0,none⟩ (.int .i64 kv)).setCell ⟨w.heap.size,1,none⟩ (.bool bv)).setCell ⟨w.heap.size,2,none⟩ (.int .i64 nv)).setCell ⟨w.heap.size,3,none⟩ (.string tv)).setCell ⟨w.heap.size,4,none⟩ (.slice la lv.length lc)).setCell ⟨w.heap.size,5,none⟩ (.slice oa ov.length oc)) #[.int .i64 kv,.bool bv,.int .i64 nv,.string tv,.slice la lv.length lc,.slice oa ov.length oc] (.int .i64 0) (.int .i64 0):=hP5.setA (.int .i64 kv) (.bool bv) (.int .i64 nv) (.string tv) (.slice la lv.length lc) (.slice oa ov.length oc);have H6:Hid (S5 ((((((w5.setCell ⟨w.heap.size,0,none⟩ (.int .i64 kv)).setCell ⟨w.heap.size,1,none⟩ (.bool bv)).setCell ⟨w.heap.size,2,none⟩ (.int .i64 nv)).setCell ⟨w.heap.size,3,none⟩ (.string tv)).setCell ⟨w.heap.size,4,none⟩ (.slice la lv.length lc)).setCell ⟨w.heap.size,5,none⟩ (.slice oa ov.length oc)) R (R+1) s q):=(Ar [.int .i64 kv,.bool bv,.int .i64 nv,.string tv,.slice la lv.length lc,.slice oa ov.length oc] w5 w.heap.size 0 R (by omega)).trans h5.2;have Hf6:Hid (Br w4.heap.size ((((((w5.setCell ⟨w.heap.size,0,none⟩ (.int .i64 kv)).setCell ⟨w.heap.size,1,none⟩ (.bool bv)).setCell ⟨w.heap.size,2,none⟩ (.int .i64 nv)).setCell ⟨w.heap.size,3,none⟩ (.string tv)).setCell ⟨w.heap.size,4,none⟩ (.slice la lv.length lc)).setCell ⟨w.heap.size,5,none⟩ (.slice oa ov.length oc)) (dV (.mk kv bv nv tv lv ov)) [.int .i64 kv,.bool bv,.int .i64 nv,.string tv,.slice la lv.length lc,.slice oa ov.length oc]):=hf5.keep (b':=w4.heap.size) (Nat.le_refl _) (by rw[show((((((w5.setCell ⟨w.heap.size,0,none⟩ (.int .i64 kv)).setCell ⟨w.heap.size,1,none⟩ (.bool bv)).setCell ⟨w.heap.size,2,none⟩ (.int .i64 nv)).setCell ⟨w.heap.size,3,none⟩ (.string tv)).setCell ⟨w.heap.size,4,none⟩ (.slice la lv.length lc)).setCell ⟨w.heap.size,5,none⟩ (.slice oa ov.length oc))=An w5 w.heap.size 0 [.int .i64 kv,.bool bv,.int .i64 nv,.string tv,.slice la lv.length lc,.slice oa ov.length oc]from rfl,Bb];exact Nat.le_refl _) (fun p p1 _=>World.cell?_of_block (Ar [.int .i64 kv,.bool bv,.int .i64 nv,.string tv,.slice la lv.length lc,.slice oa ov.length oc] w5 w.heap.size 0 p.block (by omega)));obtain⟨HP5,HP6⟩:=hid2 hP5 hP6;clear hP5 hP6;clear h5 hf5;have Hz6:Hid (w4.heap.size<=((((((w5.setCell ⟨w.heap.size,0,none⟩ (.int .i64 kv)).setCell ⟨w.heap.size,1,none⟩ (.bool bv)).setCell ⟨w.heap.size,2,none⟩ (.int .i64 nv)).setCell ⟨w.heap.size,3,none⟩ (.string tv)).setCell ⟨w.heap.size,4,none⟩ (.slice la lv.length lc)).setCell ⟨w.heap.size,5,none⟩ (.slice oa ov.length oc)).heap.size):=by show _<=_;simpa[World.setCell]using hz5
  go_wp2_with (fail);generalize ((((((w5.setCell ⟨w.heap.size,0,none⟩ (.int .i64 kv)).setCell ⟨w.heap.size,1,none⟩ (.bool bv)).setCell ⟨w.heap.size,2,none⟩ (.int .i64 nv)).setCell ⟨w.heap.size,3,none⟩ (.string tv)).setCell ⟨w.heap.size,4,none⟩ (.slice la lv.length lc)).setCell ⟨w.heap.size,5,none⟩ (.slice oa ov.length oc))=w6 at HP6 H6 Hf6 Hz6 ⊢;clear x0 x1 x2 x3 x4 x5 fx lx HP5 HP4 HI4;have hS:=Fo R (R+1) s q w6 (by omega) hw2 H6.out;have hRES:=HRES.out;generalize Al s.data.toList q=p at hS hp hRES;(with_reducible refine hS.mono ?_);rintro e w7 ⟨rfl,h7⟩;have hP7:=HP6.out.grown h7.1 (by omega);obtain⟨c0,c1,_,_,_⟩:=h7.2.cells;clear hS;by_cases hlt:p<s.size
  . rw[if_pos (by rw[Ab];exact hlt)]at hRES;subst hRES;have e1:decide ((p:Int)<(s.size:Int))=true:=decide_eq_true (by omega);have e2:(p:Int)<(s.size:Int):=by omega
    have HW:=qz (Ca (.pointer (some ⟨R,0,none⟩)) 4 (p:Nat) w7);obtain⟨HP7,H7⟩:=hid2 hP7 h7;clear hP7 h7;go_wp2_with (fail);(with_reducible refine(HW.out).mono ?_);rintro e w8 ⟨rfl,rfl⟩;simp only[Ju];go_wp2;refine leaves_cons (f:=83) (args:= #[.pointer (some ⟨w.heap.size,0,none⟩),.pointer (some ⟨w.heap.size+1,0,none⟩),.pointer (some ⟨w.heap.size+2,0,none⟩)]) (by simp) (by simp[go_sem]) ?_;refine(Pl w w8 _ _ _ _ _ _ _ _ 4 (p:Nat) HP7.out).mono ?_;rintro e u' w9 ⟨rfl,rfl,hP9⟩;obtain⟨d0,d1,d2,d3,d4,d5⟩:=Az hP9.blkA;have d6:=hP9.blkB.cell 0;have d7:=hP9.blkC.cell 0;simp[Leaves,settle,results,Tryz.results48,go_sem,d0,d1,d2,d3,d4,d5,d6,d7];exact⟨hP9.below,rfl⟩
  . rw[if_neg (by rw[Ab];exact hlt)]at hRES;subst hRES;have e1:decide ((p:Int)<(s.size:Int))=false:=decide_eq_false (by omega);have e2: ¬((p:Int)<(s.size:Int)):=by omega
    obtain⟨x0,x1,x2,x3,x4,x5⟩:=Az hP7.blkA;have fx:=hP7.blkA.frozen;have lx:=hP7.blkA.lt;have y0:=hP7.blkB.cell 0;have fy:=hP7.blkB.frozen 0;have z0:=hP7.blkC.cell 0;have fc:=hP7.blkC.frozen 0;have n0:w.heap.size≠R:=by omega
    have n1:w.heap.size+1≠R:=by omega
    have n2:w.heap.size+2≠R:=by omega
    have n3:w.heap.size+1+1≠R:=by omega
    have n4:w.heap.size+1+1≠w.heap.size:=by omega
    have n5:w.heap.size+1≠w.heap.size:=by omega
    simp only[List.getElem?_toArray,List.getElem?_cons_zero]at y0 z0;have hA7:Aj ((((((w7.setCell ⟨w.heap.size,0,none⟩ (.int .i64 kv)).setCell ⟨w.heap.size,1,none⟩ (.bool bv)).setCell ⟨w.heap.size,2,none⟩ (.int .i64 nv)).setCell ⟨w.heap.size,3,none⟩ (.string tv)).setCell ⟨w.heap.size,4,none⟩ (.slice la lv.length lc)).setCell ⟨w.heap.size,5,none⟩ (.slice oa ov.length oc)) w.heap.size 37 #[.int .i64 kv,.bool bv,.int .i64 nv,.string tv,.slice la lv.length lc,.slice oa ov.length oc]:=(hP7.setA (.int .i64 kv) (.bool bv) (.int .i64 nv) (.string tv) (.slice la lv.length lc) (.slice oa ov.length oc)).blkA;obtain⟨q0,q1,q2,q3,q4,q5⟩:=Az hA7;obtain⟨HP7,H7,HA7⟩:=hid3 hP7 h7 hA7;clear hP7 h7 hA7;go_wp2
    go_region_held3 (fun X=>X.cell? ⟨R,0,none⟩=some (.string s)/\X.cell? ⟨R,1,none⟩=some (.int .i64 (p:Nat))/\X.cell? ⟨w.heap.size,0,none⟩=some (.int .i64 kv)/\X.cell? ⟨w.heap.size,1,none⟩=some (.bool bv)/\X.cell? ⟨w.heap.size,2,none⟩=some (.int .i64 nv)/\X.cell? ⟨w.heap.size,3,none⟩=some (.string tv)/\X.cell? ⟨w.heap.size,4,none⟩=some (.slice la lv.length lc)/\X.cell? ⟨w.heap.size,5,none⟩=some (.slice oa ov.length oc)) (go_keep) (fail)
    all_goals
     have HP9:Hid (P3 w (((((((((w7.setCell ⟨w.heap.size,0,none⟩ (.int .i64 kv)).setCell ⟨w.heap.size,1,none⟩ (.bool bv)).setCell ⟨w.heap.size,2,none⟩ (.int .i64 nv)).setCell ⟨w.heap.size,3,none⟩ (.string tv)).setCell ⟨w.heap.size,4,none⟩ (.slice la lv.length lc)).setCell ⟨w.heap.size,5,none⟩ (.slice oa ov.length oc)).setCell ⟨w.heap.size+1,0,none⟩ (.int .i64 (p:Nat))).setCell ⟨w.heap.size+1+1,0,none⟩ (.int .i64 0)).drew) #[.int .i64 kv,.bool bv,.int .i64 nv,.string tv,.slice la lv.length lc,.slice oa ov.length oc] (.int .i64 (p:Nat)) (.int .i64 0)):=(((HP7.out.setA (.int .i64 kv) (.bool bv) (.int .i64 nv) (.string tv) (.slice la lv.length lc) (.slice oa ov.length oc)).setB (.int .i64 (p:Nat))).setC (.int .i64 0)).later (Below.drew (Below.refl _ _));have Hf9:Hid (Br w.heap.size (((((((((w7.setCell ⟨w.heap.size,0,none⟩ (.int .i64 kv)).setCell ⟨w.heap.size,1,none⟩ (.bool bv)).setCell ⟨w.heap.size,2,none⟩ (.int .i64 nv)).setCell ⟨w.heap.size,3,none⟩ (.string tv)).setCell ⟨w.heap.size,4,none⟩ (.slice la lv.length lc)).setCell ⟨w.heap.size,5,none⟩ (.slice oa ov.length oc)).setCell ⟨w.heap.size+1,0,none⟩ (.int .i64 (p:Nat))).setCell ⟨w.heap.size+1+1,0,none⟩ (.int .i64 0)).drew) (dV (.mk kv bv nv tv lv ov)) [.int .i64 kv,.bool bv,.int .i64 nv,.string tv,.slice la lv.length lc,.slice oa ov.length oc]):=Ab7 Hf6.out Hz6.out H7.out.1 hRlt (by omega) [.int .i64 kv,.bool bv,.int .i64 nv,.string tv,.slice la lv.length lc,.slice oa ov.length oc] _ _;clear q0 q1 q2 q3 q4 q5 x0 x1 x2 x3 x4 x5 y0 z0 fx fy fc;go_wp2;refine leaves_cons (f:=83) (args:= #[.pointer (some ⟨w.heap.size,0,none⟩),.pointer (some ⟨w.heap.size+1,0,none⟩),.pointer (some ⟨w.heap.size+2,0,none⟩)]) (by simp) (by simp[go_sem]) ?_;refine(Xv _ _ _ _).mono ?_;rintro e u' w9 ⟨rfl,rfl,rfl⟩;obtain⟨d0,d1,d2,d3,d4,d5⟩:=Az HP9.out.blkA;have d6:=HP9.out.blkB.cell 0;have d7:=HP9.out.blkC.cell 0;simp only[List.getElem?_toArray,List.getElem?_cons_zero]at d6 d7;generalize (((((((((w7.setCell ⟨w.heap.size,0,none⟩ (.int .i64 kv)).setCell ⟨w.heap.size,1,none⟩ (.bool bv)).setCell ⟨w.heap.size,2,none⟩ (.int .i64 nv)).setCell ⟨w.heap.size,3,none⟩ (.string tv)).setCell ⟨w.heap.size,4,none⟩ (.slice la lv.length lc)).setCell ⟨w.heap.size,5,none⟩ (.slice oa ov.length oc)).setCell ⟨w.heap.size+1,0,none⟩ (.int .i64 (p:Nat))).setCell ⟨w.heap.size+1+1,0,none⟩ (.int .i64 0)).drew)=w9 at HP9 Hf9 d0 d1 d2 d3 d4 d5 d6 d7 ⊢;simp[Leaves,settle,results,Tryz.results48,go_sem,d0,d1,d2,d3,d4,d5,d6,d7];exact⟨HP9.out.below,_,rfl,Hf9.out⟩
theorem Ot {s:List UInt8} {c:Int} {q:Nat} (h:Ej s=.bad c q):1<=c:=by
 unfold Ej at h;have hw:=(Dn (4*s.length+4)).1 s 0 1 (Nat.zero_le _)
 cases hr:Bi (4*s.length+4) s 0 1 with
 |bad e p=>rw[hr]at h hw;simp only[Rd.bad.injEq]at h;have:=hw.2.2.1;omega
 |ok v p=>
  rw[hr]at h;simp only at h
  split at h
  . simp only[Rd.bad.injEq]at h;omega
  . cases h
theorem Agi (b b':Bool) (n n':Int) (t t':ByteArray) (l l':List (ByteArray×Val)) (ln ln':Nat) (la oa la' oa':Option Addr) (lc oc lc' oc':Nat) (w:World) (IH: ∀m ∈ l,Adp m.2) (p:Prop) (hp:Ml l l'=true ↔ p)
 (hl:l= []\/ ∃g off,oa=some ⟨g,off,none⟩/\g<w.heap.size/\Ak w w.heap.size l g off) (hl':l'= []\/ ∃g off,oa'=some ⟨g,off,none⟩/\g<w.heap.size/\Ak w w.heap.size l' g off)
 (hb:Ae l<=100000000) (hb':Ae l'<=100000000):
 Calls Tryz.prog 50 #[.agg #[.int .i64 6,.bool b,.int .i64 n,.string t,.slice la ln lc,.slice oa l.length oc],.agg #[.int .i64 6,.bool b',.int .i64 n',.string t',.slice la' ln' lc',.slice oa' l'.length oc']] w (By p w):=by
 have hln:=Ba l;have hln':=Ba l';obtain⟨HI,Hp⟩:=hid2 IH hp;have H0:Hid (∀j x y,j<0->l[j]? =some x->l'[j]? =some y->Vk x y=true):=fun _ _ _ e=>absurd e (Nat.not_lt_zero _);clear IH hp;obtain⟨w2,hw2⟩: ∃w2,(w.alloc (Abu 6 b n t (.slice la ln lc) (.slice oa l.length oc))).alloc (Abu 6 b' n' t' (.slice la' ln' lc') (.slice oa' l'.length oc'))=w2:=⟨_,rfl⟩;have HBW:=qz (show Below w.heap.size w w2 from by rw[<-hw2];exact Ei _ _ _);have hx1:w2.heap[w.heap.size]? =some (.cells #[.int .i64 6,.bool b,.int .i64 n,.string t,.slice la ln lc,.slice oa l.length oc] 37 (0,0)):=by
  rw[<-hw2,Lib.alloc_old _ _ _ (by simp)];exact heap_alloc_new _ _
 have hx2:w2.heap[w.heap.size+1]? =some (.cells #[.int .i64 6,.bool b',.int .i64 n',.string t',.slice la' ln' lc',.slice oa' l'.length oc'] 37 (0,0)):=by
  rw[<-hw2];have:=heap_alloc_new (w.alloc (Abu 6 b n t (.slice la ln lc) (.slice oa l.length oc))) (.cells #[.int .i64 6,.bool b',.int .i64 n',.string t',.slice la' ln' lc',.slice oa' l'.length oc'] 37);simpa using this
 obtain⟨HX1,HX2⟩:=hid2 hx1 hx2;clear hx1 hx2;subst hw2;go_enter Tryz.func50,Tryz.ntmps50;go_wp2_with (fail);go_loopw [7] (fun i wr=> ∃k:Nat,i=.int .i64 k/\k<=l.length/\k<=l'.length/\Hid (∀j x y,j<k->l[j]? =some x->l'[j]? =some y->Vk x y=true)/\Hid (Below w.heap.size w wr)/\
  Hid (wr.heap[w.heap.size]? =some (.cells #[.int .i64 6,.bool b,.int .i64 n,.string t,.slice la ln lc,.slice oa l.length oc] 37 (0,0)))/\
  Hid (wr.heap[w.heap.size+1]? =some (.cells #[.int .i64 6,.bool b',.int .i64 n',.string t',.slice la' ln' lc',.slice oa' l'.length oc'] 37 (0,0)))) (fun i _=>l.length - (intOf i).toNat)
 case atStart=>exact⟨0,rfl,Nat.zero_le _,Nat.zero_le _,H0,HBW,HX1,HX2⟩
 case round=>
  obtain⟨k,rfl,hk,hk',ht,hbw,hx1,hx2⟩:=hrel;clear H0 HBW HX1 HX2;have b1:wr.cell? ⟨w.heap.size,5,none⟩=some (.slice oa l.length oc):=by rw[Lib.cell_of_heap hx1.out];rfl
  have b2:wr.cell? ⟨w.heap.size+1,5,none⟩=some (.slice oa' l'.length oc'):=by rw[Lib.cell_of_heap hx2.out];rfl
  have z2:w.heap.size+1<wr.heap.size:=(Array.getElem?_eq_some_iff.1 hx2.out).1;by_cases hlt:k<l.length
  . by_cases hlt2:k<l'.length
    . obtain⟨g,off,rfl,hg,hL⟩: ∃g off,oa=some ⟨g,off,none⟩/\g<w.heap.size/\Ak w w.heap.size l g off:=by
       rcases hl with rfl|h
       . simp at hlt
       . exact h
      obtain⟨g',off',rfl,hg',hL'⟩: ∃g off,oa'=some ⟨g,off,none⟩/\g<w.heap.size/\Ak w w.heap.size l' g off:=by
       rcases hl' with rfl|h
       . simp at hlt2
       . exact h
      obtain⟨⟨key,x⟩,hx⟩: ∃v,l[k]? =some v:=⟨_,List.getElem?_eq_getElem hlt⟩;obtain⟨⟨key',y⟩,hy⟩: ∃v,l'[k]? =some v:=⟨_,List.getElem?_eq_getElem hlt2⟩;have hxm:=List.mem_of_getElem? hx;have hym:=List.mem_of_getElem? hy;have hxb:=Ck hxm;have hyb:=Ck hym;simp only at hxb hyb;have IHx:=HI.out _ hxm;simp only at IHx;have hxy:key=key'->Ft x y=true->(∀j x y,j<k+1->l[j]? =some x->l'[j]? =some y->Vk x y=true):=by
       intro e e' j x' y' hj h1 h2;rcases Nat.lt_succ_iff_lt_or_eq.1 hj with hj|rfl
       . exact ht.out j x' y' hj h1 h2
       . rw[hx]at h1;rw[hy]at h2;rw[<-Option.some.inj h1,<-Option.some.inj h2];simp[Vk,e,e']
      have hkn:key≠key'-> ¬Ml l l'=true:=fun e h=>by
       have:=(Jh.1 h).2 k _ _ hx hy;simp only[Vk,Bool.and_eq_true,decide_eq_true_eq]at this;exact e this.1
      have hxn: ¬Ft x y=true-> ¬Ml l l'=true:=fun e h=>by
       have:=(Jh.1 h).2 k _ _ hx hy;simp only[Vk,Bool.and_eq_true,decide_eq_true_eq]at this;exact e this.2
      obtain⟨Hkn,Hxn⟩:=hid2 hkn hxn;have hz:=hbw.out.size;have c0:=((hL.below hg hbw.out).at_ hx).1;have e0:=((hL'.below hg' hbw.out).at_ hy).1;simp only at c0 e0;have HT:=qz (Pw key key' wr.drew (by omega) (by omega));have HL:Hid (∀w',Below w.heap.size w w'->Ak w' w.heap.size l g off):=fun w' h=>hL.below hg h;have HL':Hid (∀w',Below w.heap.size w w'->Ak w' w.heap.size l' g' off'):=fun w' h=>hL'.below hg' h;obtain⟨Hx,Hy⟩:=hid2 hx hy;obtain⟨Q,hQ⟩: ∃Q:Prop,(Ft x y=true)=Q:=⟨_,rfl⟩;have CC: ∀(w':World) (ca cb:List Value),Ac w' w'.heap.size x ca->Ac w' w'.heap.size y cb->Calls Tryz.prog 50 #[.agg ca.toArray,.agg cb.toArray] w' (By Q w'):=by
       intro w' ca cb h1 h2;rw[<-hQ];exact IHx y ca cb w' h1 h2 (by omega) (by omega)
      rw[hQ]at hxy;have Hxy:=qz hxy;have Hxn':Hid (¬Q-> ¬Ml l l'=true):=by rw[<-hQ];exact Hxn
      have HC:=qz CC;clear CC hQ hxy hkn hxn Hxn IHx hxb hyb hxm hym hx hy hL hL' hg hg' ht;go_wp2_with (fail)
      go_still_tail 12,(by kernel_rfl)
      change wpList _ _ _ _ _ wr.drew;go_wp2_with (fail);(with_reducible refine(HT.out).mono ?_);rintro e w4 ⟨c,rfl,hc,hb4⟩
      all_goals
       have Hc:=qz hc;have hb4':Below wr.heap.size wr w4:=(Below.drew (Below.refl _ _)).trans hb4;have hbw4:=qz (hbw.out.trans (hb4'.mono hz));have hx1':=qz ((hb4'.block _ (by omega)).trans hx1.out);have hx2':=qz ((hb4'.block _ z2).trans hx2.out);have hz4:w.heap.size<=w4.heap.size:=hbw4.out.size;have z4:w.heap.size+1<w4.heap.size:=(Array.getElem?_eq_some_iff.1 hx2'.out).1;clear hc hb4 hb4' hbw hx1 hx2 HT c0 e0 b1 b2;by_cases hc0:c=0
       . have hkk:=qz (Hc.out.1 hc0);subst hc0;clear Hc;have b1:w4.cell? ⟨w.heap.size,5,none⟩=some (.slice (some ⟨g,off,none⟩) l.length oc):=by rw[Lib.cell_of_heap hx1'.out];rfl
         have b2:w4.cell? ⟨w.heap.size+1,5,none⟩=some (.slice (some ⟨g',off',none⟩) l'.length oc'):=by rw[Lib.cell_of_heap hx2'.out];rfl
         obtain⟨k1,b1',n1,t1,l1,o1⟩:=x;obtain⟨k2,b2',n2,t2,l2,o2⟩:=y;obtain⟨la1,lc1,oa1,oc1,hv1,_,c1,c2,c3,c4,c5,c6⟩:=(HL.out _ hbw4.out).seven Hx.out;obtain⟨la2,lc2,oa2,oc2,hv2,_,e1,e2,e3,e4,e5,e6⟩:=(HL'.out _ hbw4.out).seven Hy.out;have hC4:=qz (HC.out w4.drew _ _ (Ac.more hz4 _ _ (hv1.below (Below.drew (Below.refl _ _)))) (Ac.more hz4 _ _ (hv2.below (Below.drew (Below.refl _ _)))));clear HC hv1 hv2 HL HL' Hx Hy;go_wp2_with (fail)
         go_still_tail 12,(by kernel_rfl)
         change wpList _ _ _ _ _ w4.drew;go_wp2_with (fail);(with_reducible refine(hC4.out).mono ?_);rintro e w5 ⟨c',rfl,hc',hb5⟩
         all_goals
          have Hc:=qz hc';have hb5':Below w4.heap.size w4 w5:=(Below.drew (Below.refl _ _)).trans hb5;have hbw5:=qz (hbw4.out.trans (hb5'.mono hz4));have hx1'':=qz ((hb5'.block _ (by omega)).trans hx1'.out);have hx2'':=qz ((hb5'.block _ z4).trans hx2'.out);clear hc' hb5 hb5' hbw4 hx1' hx2' hC4 c1 c2 c3 c4 c5 c6 e1 e2 e3 e4 e5 e6 b1 b2;by_cases hc0:c'=0
          . have Hn:=qz (Hxy.out hkk.out (Hc.out.1 hc0));subst hc0;clear Hc;go_wp2;go_roundw
            case rel=>exact⟨k+1,by go_num,by omega,by omega,Hn,hbw5,hx1'',hx2''⟩
            case measure=>simp only[intOf];omega
          . have hne:=Hxn'.out (fun e=>hc0 (Hc.out.2 e));have f1:(c'==0)=false:=by simpa using hc0
            have f2:(c' != 0)=true:=by simpa using hc0
            have Hf:Hid (c'=0 ↔ p):=⟨fun e=>absurd e hc0,fun e=>absurd (Hp.out.2 e) hne⟩;clear Hc hne hc0;go_wp2;go_ret;exact By.of Hf.out hbw5.out
       . have hne:=Hkn.out (fun e=>hc0 (Hc.out.2 e));have f1:(c==0)=false:=by simpa using hc0
         have f2:(c != 0)=true:=by simpa using hc0
         have Hf:Hid (c=0 ↔ p):=⟨fun e=>absurd e hc0,fun e=>absurd (Hp.out.2 e) hne⟩;clear Hc hne hc0;go_wp2;go_ret;exact By.of Hf.out hbw4.out
    . have hk2:k=l'.length:=by omega
      subst hk2;have hne: ¬Ml l l'=true:=fun h=>by have:=(Jh.1 h).1;omega
      obtain⟨C,hC⟩: ∃C,Mh (l.length:Int) (l'.length:Int)=C:=⟨_,rfl⟩;have cN:=fun w=>E0 (l.length:Int) (l'.length:Int) w;rw[hC]at cN;have HN:=qz cN;have hcz:C≠0:=by rw[<-hC,Ne,E2];omega
      have Hf:Hid (C=0 ↔ p):=⟨fun e=>absurd e hcz,fun e=>absurd (Hp.out.2 e) hne⟩;clear cN hC hcz hne ht hl hl';go_wp2_with (fail);(with_reducible refine(HN.out _).mono ?_);rintro e w' ⟨rfl,rfl⟩;go_wp2;go_ret;exact By.of Hf.out hbw.out
  . have hk2:k=l.length:=by omega
    subst hk2;obtain⟨C,hC⟩: ∃C,Mh (l.length:Int) (l'.length:Int)=C:=⟨_,rfl⟩;have cN:=fun w=>E0 (l.length:Int) (l'.length:Int) w;rw[hC]at cN;have HN:=qz cN;have Hf:Hid (C=0 ↔ p):=by
     show _ ↔ _;rw[<-hC,E2,<-Hp.out];constructor
     . intro h;exact Jh.2 ⟨by omega,fun j x y h1 h2=>ht.out j x y (List.getElem?_eq_some_iff.1 h1).1 h1 h2⟩
     . intro h;have:=(Jh.1 h).1;omega
    clear cN hC ht hl hl';go_wp2_with (fail);(with_reducible refine(HN.out _).mono ?_);rintro e w' ⟨rfl,rfl⟩;go_wp2;go_ret;exact By.of Hf.out hbw.out
theorem Ac2: ∀a,Adp a:=by
 refine Val.ind ?_;intro k b n t l o IHl IHo v cs cs' w hV hV' hb hb';obtain⟨k',b',n',t',l',o'⟩:=v;simp only[Ac]at hV hV';obtain⟨la,lc,oa,oc,rfl,hla,hoa⟩:=hV;obtain⟨la',lc',oa',oc',rfl,hla',hoa'⟩:=hV';simp only[Val.bulk]at hb hb';by_cases hkk:k≠k'
 . exact Ady k k' b b' n n' t t' _ _ _ _ w hkk _ (fun e=>by simp only[Ft,Bool.and_eq_true,decide_eq_true_eq]at e;exact hkk e.1)
 obtain rfl:k=k':=by omega
 by_cases h2:k=2
 . subst h2;exact Adx b b' n n' t t' _ _ _ _ w _ (by simp[Ft])
 by_cases h3:k=3
 . subst h3;exact Afs b b' n n' t t' _ _ _ _ w _ (by simp[Ft])
 by_cases h4:k=4
 . subst h4;exact Adz b b' n n' t t' _ _ _ _ w _ (by omega) (by omega) (by simp[Ft])
 by_cases h5:k=5
 . subst h5;exact Afd b b' n n' t t' l l' _ _ la oa la' oa' lc oc lc' oc' w IHl _ (by simp[Ft]) hla hla' (by omega) (by omega)
 by_cases h6:k=6
 . subst h6;exact Agi b b' n n' t t' o o' _ _ la oa la' oa' lc oc lc' oc' w IHo _ (by simp[Ft]) hoa hoa' (by omega) (by omega)
 exact Afu k h2 h3 h4 h5 h6 b b' n n' t t' _ _ _ _ w _ (by simp[Ft,h2,h3,h4,h5,h6])
theorem Ahf {a b:ByteArray} (h:a≠b):(a==b)=false/\(a != b)=true/\(a.toList==b.toList)=false/\(a.toList != b.toList)=true:=by
 have h1:(a==b)=false:=by
  obtain⟨a⟩:=a;obtain⟨b⟩:=b;have e:((⟨a⟩:ByteArray)==⟨b⟩)=(a==b):=rfl;rw[e];simpa using h
 have h2:(a.toList==b.toList)=false:=by
  rw[ByteArray.toList_eq,ByteArray.toList_eq,beq_eq_false_iff_ne];intro e;exact h (by
   obtain⟨⟨a⟩⟩:=a;obtain⟨⟨b⟩⟩:=b;simpa using e)
 exact⟨h1,by rw[bne,h1];rfl,h2,by rw[bne,h2];rfl⟩
theorem Ahe (a:ByteArray):(a==a)=true/\(a != a)=false/\(a.toList==a.toList)=true/\(a.toList != a.toList)=false:=by
 have h1:(a==a)=true:=by
  obtain⟨a⟩:=a;have e:((⟨a⟩:ByteArray)==⟨a⟩)=(a==a):=rfl;rw[e];simp
 exact⟨h1,by rw[bne,h1];rfl,by simp,by simp⟩
end Go.Proofs.YtkmcjfkokoidcaaGreatDoor
