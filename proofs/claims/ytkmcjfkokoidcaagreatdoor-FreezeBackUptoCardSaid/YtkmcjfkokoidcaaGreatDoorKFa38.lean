/- Parts: value.Same. Condition: bulks of at most 10^8. -/
import Derived.StillTailTactics
import Derived.Test.YtkmcjfkokoidcaaGreatDoorKFa35
set_option maxHeartbeats 20000000
set_option maxRecDepth 100000
namespace Go.Proofs.YtkmcjfkokoidcaaGreatDoor
open Go Go.RowKit
theorem P3.grown {w W W':World} {a:Array Value} {vb vc:Value} {R:Nat} (h:P3 w W a vb vc) (t:W.grownBy W' (some R)) (hR:w.heap.size+3<=R):P3 w W' a vb vc:=
 ⟨h.below.grown t h.below.size (fun r e=>by have:=Option.some.inj e;omega),h.blkA.grown t (fun e=>by have:=Option.some.inj e;omega),h.blkB.grown t (fun e=>by have:=Option.some.inj e;omega),h.blkC.grown t (fun e=>by have:=Option.some.inj e;omega)⟩
theorem P3.new (w:World):P3 w (((w.alloc (.cells Bk 37)).alloc (.cells #[.int .i64 0] 3)).alloc (.cells #[.int .i64 0] 30)) Bk (.int .i64 0) (.int .i64 0):=
 ⟨((Aa w _).alloc (by simp) _).alloc (by simp;omega) _,((Aj.new w _ _).alloc _).alloc _,by simpa using(Aj.new (w.alloc (.cells Bk 37)) 3 #[.int .i64 0]).alloc (.cells #[.int .i64 0] 30),by simpa using Aj.new ((w.alloc (.cells Bk 37)).alloc (.cells #[.int .i64 0] 3)) 30 #[.int .i64 0]⟩
theorem Ahq {B:Nat} {w4 w6 w7:World} {R:Nat} {d:D} {cs:List Value} (hf:Ch w4.heap.size w6 d cs) (_h6:w4.heap.size<=w6.heap.size) (h7:w6.grownBy w7 (some R)) (hR:R<w4.heap.size) (hw:B+3<=w4.heap.size) (vs:List Value) (v1 v2:Value):
 Ch B (((Ak w7 B 0 vs).setCell ⟨B+1,0,none⟩ v1).setCell ⟨B+1+1,0,none⟩ v2).drew d cs:=by
 have z7:=h7.size;have e9:((((Ak w7 B 0 vs).setCell ⟨B+1,0,none⟩ v1).setCell ⟨B+1+1,0,none⟩ v2).drew).heap.size=w7.heap.size:=by
  have:=Ca vs w7 B 0;simpa[World.setCell]using this
 refine hf.keep (b':=B) (by omega) (by rw[e9];exact z7) (fun a p1 p2=>World.cell?_of_block ?_);rw[<-h7.block a.block p2 (by intro e;have:=Option.some.inj e;omega)];show(((Ak w7 B 0 vs).setCell ⟨B+1,0,none⟩ v1).setCell ⟨B+1+1,0,none⟩ v2).heap[a.block]? =_;exact(Below.heap_setCell _ _ _ _ (by simp;omega)).trans ((Below.heap_setCell _ _ _ _ (by simp;omega)).trans (A0 _ w7 B 0 a.block (by omega)))
theorem Acm (s:ByteArray) (w:World) (hT:Cm w) (hN:Mv w) (hs:s.size<=100000000):
 Calls Tryz.prog 48 #[.string s] w (Anq w (Fe s.data.toList)):=by
 have hmf: ∀(fn:Fn) (first cap:Array Value) (w:World),(Instr.makeFunc fn first cap).run Tryz.prog w=.ok (.func fn first cap) w:=fun _ _ _ _=>rfl;have hP0:=P3.new w;have hz3:(((w.alloc (.cells Bk 37)).alloc (.cells #[.int .i64 0] 3)).alloc (.cells #[.int .i64 0] 30)).heap.size=w.heap.size+3:=by simp
 obtain⟨w3,hw3⟩: ∃w3,((w.alloc (.cells Bk 37)).alloc (.cells #[.int .i64 0] 3)).alloc (.cells #[.int .i64 0] 30)=w3:=⟨_,rfl⟩;rw[hw3]at hP0 hz3;have hNR:=Sv s w3;have hV:=Ai5 w3 (hT.below hP0.below) (hN.below hP0.below) w3.heap.size (w3.heap.size+1) s hs (4*s.data.toList.length+4);obtain⟨R,hR⟩: ∃R,w3.heap.size=R:=⟨_,rfl⟩;rw[hR]at hNR hV;have hRw:w.heap.size+3<=R:=by omega
 clear hz3;have hwi:=(Iu (4*s.data.toList.length+4)).1 s.data.toList 0 1 (Nat.zero_le _);obtain⟨RES,hRES⟩: ∃r,Fe s.data.toList=r:=⟨_,rfl⟩;rw[hRES];unfold Fe at hRES;have hV0:=fun(w4:World) h=>hV w4 0 1 h (Nat.zero_le _) (by rw[Al];omega) (by omega) (by omega)
 cases hr:Cc (4*s.data.toList.length+4) s.data.toList 0 1 with
 |bad c q=>
  rw[hr]at hRES hV0;simp only at hRES;subst hRES;clear hV hr hwi;obtain⟨HP0,HV0,HNR⟩:=hid3 hP0 hV0 hNR;clear hP0 hV0 hNR
  go_enter_defers Tryz.func48,Tryz.ntmps48
  go_wp2_with (fail);(with_reducible refine(HNR.out).mono ?_);rintro e w4 ⟨rfl,hnr⟩;have HP4:=qz (HP0.out.later hnr.below);have hI4:RdI w3 w4 R (R+1) s 0:=⟨hnr.below,by omega,by have:=hnr.blk;rw[hR]at this;exact this,by have:=hnr.map;rw[hR]at this;exact this⟩;have HV4:=qz (HV0.out w4 hI4);have HI4:=qz hI4;clear hI4;clear hnr hw3;go_wp2_with (fail);(with_reducible refine(HV4.out).mono ?_);rintro e w5 ⟨rfl,hg5⟩;have hP5:=HP4.out.grown hg5 (by omega);simp only[L9];go_wp2;refine leaves_cons (f:=83) (args:= #[.pointer (some ⟨w.heap.size,0,none⟩),.pointer (some ⟨w.heap.size+1,0,none⟩),.pointer (some ⟨w.heap.size+2,0,none⟩)]) (by simp) (by simp[go_sem]) ?_;refine(R5 w w5 _ _ _ _ _ _ _ _ c (q:Nat) hP5).mono ?_;rintro e u' w6 ⟨rfl,rfl,hP6⟩;have d0:=hP6.blkA.cell 0;obtain⟨d0,d1,d2,d3,d4,d5⟩:=Bp hP6.blkA;have d6:=hP6.blkB.cell 0;have d7:=hP6.blkC.cell 0;simp[Leaves,settle,results,Tryz.results48,go_sem,d0,d1,d2,d3,d4,d5,d6,d7];exact⟨hP6.below,rfl⟩
 |ok v q=>
  rw[hr]at hRES hV0 hwi;simp only at hRES;obtain⟨hw1,hw2⟩:=hwi;rw[Al]at hw2;have hp:=Dv hw2;obtain⟨kv,bv,nv,tv,lv,ov⟩:=v;clear hV hr;obtain⟨HP0,HV0,HNR,HRES⟩:=hid4 hP0 hV0 hNR hRES;clear hP0 hV0 hNR hRES
  go_enter_defers Tryz.func48,Tryz.ntmps48
  go_wp2_with (fail);(with_reducible refine(HNR.out).mono ?_);rintro e w4 ⟨rfl,hnr⟩;have HP4:=qz (HP0.out.later hnr.below);have hI4:RdI w3 w4 R (R+1) s 0:=⟨hnr.below,by omega,by have:=hnr.blk;rw[hR]at this;exact this,by have:=hnr.map;rw[hR]at this;exact this⟩;have hV4:=HV0.out w4 hI4;have hRlt:R<w4.heap.size:=Aj.lt hI4.rd;have hz4:w.heap.size+3<=w4.heap.size:=by have:=hnr.below.size;omega
  obtain⟨HI4,HV4⟩:=hid2 hI4 hV4;clear hI4 hV4;clear hnr hw3 HNR HV0;go_wp2_with (fail);(with_reducible refine(HV4.out).mono ?_);rintro e w5 ⟨⟨cs,rfl,hf5⟩,h5⟩;obtain⟨la,lc,oa,oc,rfl⟩:=G8 hf5;have hP5:=HP4.out.grown h5.1 (by omega);have hz5:=h5.1.size;obtain⟨x0,x1,x2,x3,x4,x5⟩:=Bp hP5.blkA;have fx:=hP5.blkA.frozen;have lx:=hP5.blkA.lt;have hP6:P3 w ((((((w5.setCell ⟨w.heap.size,0,none⟩ (.int .i64 kv)).setCell ⟨w.heap.size,1,none⟩ (.bool bv)).setCell ⟨w.heap.size,2,none⟩ (.int .i64 nv)).setCell ⟨w.heap.size,3,none⟩ (.string tv)).setCell ⟨w.heap.size,4,none⟩ (.slice la lv.length lc)).setCell ⟨w.heap.size,5,none⟩ (.slice oa ov.length oc)) #[.int .i64 kv,.bool bv,.int .i64 nv,.string tv,.slice la lv.length lc,.slice oa ov.length oc] (.int .i64 0) (.int .i64 0):=hP5.setA (.int .i64 kv) (.bool bv) (.int .i64 nv) (.string tv) (.slice la lv.length lc) (.slice oa ov.length oc);have H6:Hid (Wj ((((((w5.setCell ⟨w.heap.size,0,none⟩ (.int .i64 kv)).setCell ⟨w.heap.size,1,none⟩ (.bool bv)).setCell ⟨w.heap.size,2,none⟩ (.int .i64 nv)).setCell ⟨w.heap.size,3,none⟩ (.string tv)).setCell ⟨w.heap.size,4,none⟩ (.slice la lv.length lc)).setCell ⟨w.heap.size,5,none⟩ (.slice oa ov.length oc)) R (R+1) s q):=(A0 [.int .i64 kv,.bool bv,.int .i64 nv,.string tv,.slice la lv.length lc,.slice oa ov.length oc] w5 w.heap.size 0 R (by omega)).trans h5.2;have Hf6:Hid (Ch w4.heap.size ((((((w5.setCell ⟨w.heap.size,0,none⟩ (.int .i64 kv)).setCell ⟨w.heap.size,1,none⟩ (.bool bv)).setCell ⟨w.heap.size,2,none⟩ (.int .i64 nv)).setCell ⟨w.heap.size,3,none⟩ (.string tv)).setCell ⟨w.heap.size,4,none⟩ (.slice la lv.length lc)).setCell ⟨w.heap.size,5,none⟩ (.slice oa ov.length oc)) (dV (.mk kv bv nv tv lv ov)) [.int .i64 kv,.bool bv,.int .i64 nv,.string tv,.slice la lv.length lc,.slice oa ov.length oc]):=hf5.keep (b':=w4.heap.size) (Nat.le_refl _) (by rw[show((((((w5.setCell ⟨w.heap.size,0,none⟩ (.int .i64 kv)).setCell ⟨w.heap.size,1,none⟩ (.bool bv)).setCell ⟨w.heap.size,2,none⟩ (.int .i64 nv)).setCell ⟨w.heap.size,3,none⟩ (.string tv)).setCell ⟨w.heap.size,4,none⟩ (.slice la lv.length lc)).setCell ⟨w.heap.size,5,none⟩ (.slice oa ov.length oc))=Ak w5 w.heap.size 0 [.int .i64 kv,.bool bv,.int .i64 nv,.string tv,.slice la lv.length lc,.slice oa ov.length oc]from rfl,Ca];exact Nat.le_refl _) (fun p p1 _=>World.cell?_of_block (A0 [.int .i64 kv,.bool bv,.int .i64 nv,.string tv,.slice la lv.length lc,.slice oa ov.length oc] w5 w.heap.size 0 p.block (by omega)));obtain⟨HP5,HP6⟩:=hid2 hP5 hP6;clear hP5 hP6;clear h5 hf5;have Hz6:Hid (w4.heap.size<=((((((w5.setCell ⟨w.heap.size,0,none⟩ (.int .i64 kv)).setCell ⟨w.heap.size,1,none⟩ (.bool bv)).setCell ⟨w.heap.size,2,none⟩ (.int .i64 nv)).setCell ⟨w.heap.size,3,none⟩ (.string tv)).setCell ⟨w.heap.size,4,none⟩ (.slice la lv.length lc)).setCell ⟨w.heap.size,5,none⟩ (.slice oa ov.length oc)).heap.size):=by show _<=_;simpa[World.setCell]using hz5
  go_wp2_with (fail);generalize ((((((w5.setCell ⟨w.heap.size,0,none⟩ (.int .i64 kv)).setCell ⟨w.heap.size,1,none⟩ (.bool bv)).setCell ⟨w.heap.size,2,none⟩ (.int .i64 nv)).setCell ⟨w.heap.size,3,none⟩ (.string tv)).setCell ⟨w.heap.size,4,none⟩ (.slice la lv.length lc)).setCell ⟨w.heap.size,5,none⟩ (.slice oa ov.length oc))=w6 at HP6 H6 Hf6 Hz6 ⊢;clear x0 x1 x2 x3 x4 x5 fx lx HP5 HP4 HI4;have hS:=Gq R (R+1) s q w6 (by omega) hw2 H6.out;have hRES:=HRES.out;generalize Aq s.data.toList q=p at hS hp hRES;(with_reducible refine hS.mono ?_);rintro e w7 ⟨rfl,h7⟩;have hP7:=HP6.out.grown h7.1 (by omega);obtain⟨c0,c1,_,_,_⟩:=h7.2.cells;clear hS;by_cases hlt:p<s.size
  . rw[if_pos (by rw[Al];exact hlt)]at hRES;subst hRES;have e1:decide ((p:Int)<(s.size:Int))=true:=decide_eq_true (by omega);have e2:(p:Int)<(s.size:Int):=by omega
    have HW:=qz (Cp (.pointer (some ⟨R,0,none⟩)) 4 (p:Nat) w7);obtain⟨HP7,H7⟩:=hid2 hP7 h7;clear hP7 h7;go_wp2_with (fail);(with_reducible refine(HW.out).mono ?_);rintro e w8 ⟨rfl,rfl⟩;simp only[L9];go_wp2;refine leaves_cons (f:=83) (args:= #[.pointer (some ⟨w.heap.size,0,none⟩),.pointer (some ⟨w.heap.size+1,0,none⟩),.pointer (some ⟨w.heap.size+2,0,none⟩)]) (by simp) (by simp[go_sem]) ?_;refine(R5 w w8 _ _ _ _ _ _ _ _ 4 (p:Nat) HP7.out).mono ?_;rintro e u' w9 ⟨rfl,rfl,hP9⟩;obtain⟨d0,d1,d2,d3,d4,d5⟩:=Bp hP9.blkA;have d6:=hP9.blkB.cell 0;have d7:=hP9.blkC.cell 0;simp[Leaves,settle,results,Tryz.results48,go_sem,d0,d1,d2,d3,d4,d5,d6,d7];exact⟨hP9.below,rfl⟩
  . rw[if_neg (by rw[Al];exact hlt)]at hRES;subst hRES;have e1:decide ((p:Int)<(s.size:Int))=false:=decide_eq_false (by omega);have e2: ¬((p:Int)<(s.size:Int)):=by omega
    obtain⟨x0,x1,x2,x3,x4,x5⟩:=Bp hP7.blkA;have fx:=hP7.blkA.frozen;have lx:=hP7.blkA.lt;have y0:=hP7.blkB.cell 0;have fy:=hP7.blkB.frozen 0;have z0:=hP7.blkC.cell 0;have fc:=hP7.blkC.frozen 0;have n0:w.heap.size≠R:=by omega
    have n1:w.heap.size+1≠R:=by omega
    have n2:w.heap.size+2≠R:=by omega
    have n3:w.heap.size+1+1≠R:=by omega
    have n4:w.heap.size+1+1≠w.heap.size:=by omega
    have n5:w.heap.size+1≠w.heap.size:=by omega
    simp only[List.getElem?_toArray,List.getElem?_cons_zero]at y0 z0;have hA7:Aj ((((((w7.setCell ⟨w.heap.size,0,none⟩ (.int .i64 kv)).setCell ⟨w.heap.size,1,none⟩ (.bool bv)).setCell ⟨w.heap.size,2,none⟩ (.int .i64 nv)).setCell ⟨w.heap.size,3,none⟩ (.string tv)).setCell ⟨w.heap.size,4,none⟩ (.slice la lv.length lc)).setCell ⟨w.heap.size,5,none⟩ (.slice oa ov.length oc)) w.heap.size 37 #[.int .i64 kv,.bool bv,.int .i64 nv,.string tv,.slice la lv.length lc,.slice oa ov.length oc]:=(hP7.setA (.int .i64 kv) (.bool bv) (.int .i64 nv) (.string tv) (.slice la lv.length lc) (.slice oa ov.length oc)).blkA;obtain⟨q0,q1,q2,q3,q4,q5⟩:=Bp hA7;obtain⟨HP7,H7,HA7⟩:=hid3 hP7 h7 hA7;clear hP7 h7 hA7;go_wp2
    go_region_held3 (fun X=>X.cell? ⟨R,0,none⟩=some (.string s)/\X.cell? ⟨R,1,none⟩=some (.int .i64 (p:Nat))/\X.cell? ⟨w.heap.size,0,none⟩=some (.int .i64 kv)/\X.cell? ⟨w.heap.size,1,none⟩=some (.bool bv)/\X.cell? ⟨w.heap.size,2,none⟩=some (.int .i64 nv)/\X.cell? ⟨w.heap.size,3,none⟩=some (.string tv)/\X.cell? ⟨w.heap.size,4,none⟩=some (.slice la lv.length lc)/\X.cell? ⟨w.heap.size,5,none⟩=some (.slice oa ov.length oc)) (go_keep) (fail)
    all_goals
     have HP9:Hid (P3 w (((((((((w7.setCell ⟨w.heap.size,0,none⟩ (.int .i64 kv)).setCell ⟨w.heap.size,1,none⟩ (.bool bv)).setCell ⟨w.heap.size,2,none⟩ (.int .i64 nv)).setCell ⟨w.heap.size,3,none⟩ (.string tv)).setCell ⟨w.heap.size,4,none⟩ (.slice la lv.length lc)).setCell ⟨w.heap.size,5,none⟩ (.slice oa ov.length oc)).setCell ⟨w.heap.size+1,0,none⟩ (.int .i64 (p:Nat))).setCell ⟨w.heap.size+1+1,0,none⟩ (.int .i64 0)).drew) #[.int .i64 kv,.bool bv,.int .i64 nv,.string tv,.slice la lv.length lc,.slice oa ov.length oc] (.int .i64 (p:Nat)) (.int .i64 0)):=(((HP7.out.setA (.int .i64 kv) (.bool bv) (.int .i64 nv) (.string tv) (.slice la lv.length lc) (.slice oa ov.length oc)).setB (.int .i64 (p:Nat))).setC (.int .i64 0)).later (Below.drew (Below.refl _ _));have Hf9:Hid (Ch w.heap.size (((((((((w7.setCell ⟨w.heap.size,0,none⟩ (.int .i64 kv)).setCell ⟨w.heap.size,1,none⟩ (.bool bv)).setCell ⟨w.heap.size,2,none⟩ (.int .i64 nv)).setCell ⟨w.heap.size,3,none⟩ (.string tv)).setCell ⟨w.heap.size,4,none⟩ (.slice la lv.length lc)).setCell ⟨w.heap.size,5,none⟩ (.slice oa ov.length oc)).setCell ⟨w.heap.size+1,0,none⟩ (.int .i64 (p:Nat))).setCell ⟨w.heap.size+1+1,0,none⟩ (.int .i64 0)).drew) (dV (.mk kv bv nv tv lv ov)) [.int .i64 kv,.bool bv,.int .i64 nv,.string tv,.slice la lv.length lc,.slice oa ov.length oc]):=Ahq Hf6.out Hz6.out H7.out.1 hRlt (by omega) [.int .i64 kv,.bool bv,.int .i64 nv,.string tv,.slice la lv.length lc,.slice oa ov.length oc] _ _;clear q0 q1 q2 q3 q4 q5 x0 x1 x2 x3 x4 x5 y0 z0 fx fy fc;go_wp2;refine leaves_cons (f:=83) (args:= #[.pointer (some ⟨w.heap.size,0,none⟩),.pointer (some ⟨w.heap.size+1,0,none⟩),.pointer (some ⟨w.heap.size+2,0,none⟩)]) (by simp) (by simp[go_sem]) ?_;refine(Aco _ _ _ _).mono ?_;rintro e u' w9 ⟨rfl,rfl,rfl⟩;obtain⟨d0,d1,d2,d3,d4,d5⟩:=Bp HP9.out.blkA;have d6:=HP9.out.blkB.cell 0;have d7:=HP9.out.blkC.cell 0;simp only[List.getElem?_toArray,List.getElem?_cons_zero]at d6 d7;generalize (((((((((w7.setCell ⟨w.heap.size,0,none⟩ (.int .i64 kv)).setCell ⟨w.heap.size,1,none⟩ (.bool bv)).setCell ⟨w.heap.size,2,none⟩ (.int .i64 nv)).setCell ⟨w.heap.size,3,none⟩ (.string tv)).setCell ⟨w.heap.size,4,none⟩ (.slice la lv.length lc)).setCell ⟨w.heap.size,5,none⟩ (.slice oa ov.length oc)).setCell ⟨w.heap.size+1,0,none⟩ (.int .i64 (p:Nat))).setCell ⟨w.heap.size+1+1,0,none⟩ (.int .i64 0)).drew)=w9 at HP9 Hf9 d0 d1 d2 d3 d4 d5 d6 d7 ⊢;simp[Leaves,settle,results,Tryz.results48,go_sem,d0,d1,d2,d3,d4,d5,d6,d7];exact⟨HP9.out.below,_,rfl,Hf9.out⟩
theorem Xp {s:List UInt8} {c:Int} {q:Nat} (h:Fe s=.bad c q):1<=c:=by
 unfold Fe at h;have hw:=(Iu (4*s.length+4)).1 s 0 1 (Nat.zero_le _)
 cases hr:Cc (4*s.length+4) s 0 1 with
 |bad e p=>rw[hr]at h hw;simp only[Rd.bad.injEq]at h;have:=hw.2.2.1;omega
 |ok v p=>
  rw[hr]at h;simp only at h
  split at h
  . simp only[Rd.bad.injEq]at h;omega
  . cases h
theorem Ana (b b':Bool) (n n':Int) (t t':ByteArray) (l l':List (ByteArray×Val)) (ln ln':Nat) (la oa la' oa':Option Addr) (lc oc lc' oc':Nat) (w:World) (IH: ∀m ∈ l,Ajj m.2) (p:Prop) (hp:Kn l l'=true ↔ p)
 (hl:l= []\/ ∃g off,oa=some ⟨g,off,none⟩/\g<w.heap.size/\Ap w w.heap.size l g off) (hl':l'= []\/ ∃g off,oa'=some ⟨g,off,none⟩/\g<w.heap.size/\Ap w w.heap.size l' g off)
 (hb:Ab l<=100000000) (hb':Ab l'<=100000000):
 Calls Tryz.prog 50 #[.agg #[.int .i64 6,.bool b,.int .i64 n,.string t,.slice la ln lc,.slice oa l.length oc],.agg #[.int .i64 6,.bool b',.int .i64 n',.string t',.slice la' ln' lc',.slice oa' l'.length oc']] w (Az p w):=by
 have hln:=Bc l;have hln':=Bc l';obtain⟨HI,Hp⟩:=hid2 IH hp;have H0:Hid (∀j x y,j<0->l[j]? =some x->l'[j]? =some y->Nk x y=true):=fun _ _ _ e=>absurd e (Nat.not_lt_zero _);clear IH hp;obtain⟨w2,hw2⟩: ∃w2,(w.alloc (Ag8 6 b n t (.slice la ln lc) (.slice oa l.length oc))).alloc (Ag8 6 b' n' t' (.slice la' ln' lc') (.slice oa' l'.length oc'))=w2:=⟨_,rfl⟩;have HBW:=qz (show Below w.heap.size w w2 from by rw[<-hw2];exact B6 _ _ _);have hx1:w2.heap[w.heap.size]? =some (.cells #[.int .i64 6,.bool b,.int .i64 n,.string t,.slice la ln lc,.slice oa l.length oc] 37 (0,0)):=by
  rw[<-hw2,Lib.alloc_old _ _ _ (by simp)];exact heap_alloc_new _ _
 have hx2:w2.heap[w.heap.size+1]? =some (.cells #[.int .i64 6,.bool b',.int .i64 n',.string t',.slice la' ln' lc',.slice oa' l'.length oc'] 37 (0,0)):=by
  rw[<-hw2];have:=heap_alloc_new (w.alloc (Ag8 6 b n t (.slice la ln lc) (.slice oa l.length oc))) (.cells #[.int .i64 6,.bool b',.int .i64 n',.string t',.slice la' ln' lc',.slice oa' l'.length oc'] 37);simpa using this
 obtain⟨HX1,HX2⟩:=hid2 hx1 hx2;clear hx1 hx2;subst hw2;go_enter Tryz.func50,Tryz.ntmps50;go_wp2_with (fail);go_loopw [7] (fun i wr=> ∃k:Nat,i=.int .i64 k/\k<=l.length/\k<=l'.length/\Hid (∀j x y,j<k->l[j]? =some x->l'[j]? =some y->Nk x y=true)/\Hid (Below w.heap.size w wr)/\
  Hid (wr.heap[w.heap.size]? =some (.cells #[.int .i64 6,.bool b,.int .i64 n,.string t,.slice la ln lc,.slice oa l.length oc] 37 (0,0)))/\
  Hid (wr.heap[w.heap.size+1]? =some (.cells #[.int .i64 6,.bool b',.int .i64 n',.string t',.slice la' ln' lc',.slice oa' l'.length oc'] 37 (0,0)))) (fun i _=>l.length - (intOf i).toNat)
 case atStart=>exact⟨0,rfl,Nat.zero_le _,Nat.zero_le _,H0,HBW,HX1,HX2⟩
 case round=>
  obtain⟨k,rfl,hk,hk',ht,hbw,hx1,hx2⟩:=hrel;clear H0 HBW HX1 HX2;have b1:wr.cell? ⟨w.heap.size,5,none⟩=some (.slice oa l.length oc):=by rw[Lib.cell_of_heap hx1.out];rfl
  have b2:wr.cell? ⟨w.heap.size+1,5,none⟩=some (.slice oa' l'.length oc'):=by rw[Lib.cell_of_heap hx2.out];rfl
  have z2:w.heap.size+1<wr.heap.size:=(Array.getElem?_eq_some_iff.1 hx2.out).1;by_cases hlt:k<l.length
  . by_cases hlt2:k<l'.length
    . obtain⟨g,off,rfl,hg,hL⟩: ∃g off,oa=some ⟨g,off,none⟩/\g<w.heap.size/\Ap w w.heap.size l g off:=by
       rcases hl with rfl|h
       . simp at hlt
       . exact h
      obtain⟨g',off',rfl,hg',hL'⟩: ∃g off,oa'=some ⟨g,off,none⟩/\g<w.heap.size/\Ap w w.heap.size l' g off:=by
       rcases hl' with rfl|h
       . simp at hlt2
       . exact h
      obtain⟨⟨key,x⟩,hx⟩: ∃v,l[k]? =some v:=⟨_,List.getElem?_eq_getElem hlt⟩;obtain⟨⟨key',y⟩,hy⟩: ∃v,l'[k]? =some v:=⟨_,List.getElem?_eq_getElem hlt2⟩;have hxm:=List.mem_of_getElem? hx;have hym:=List.mem_of_getElem? hy;have hxb:=Bz hxm;have hyb:=Bz hym;simp only at hxb hyb;have IHx:=HI.out _ hxm;simp only at IHx;have hxy:key=key'->Dj x y=true->(∀j x y,j<k+1->l[j]? =some x->l'[j]? =some y->Nk x y=true):=by
       intro e e' j x' y' hj h1 h2;rcases Nat.lt_succ_iff_lt_or_eq.1 hj with hj|rfl
       . exact ht.out j x' y' hj h1 h2
       . rw[hx]at h1;rw[hy]at h2;rw[<-Option.some.inj h1,<-Option.some.inj h2];simp[Nk,e,e']
      have hkn:key≠key'-> ¬Kn l l'=true:=fun e h=>by
       have:=(G7.1 h).2 k _ _ hx hy;simp only[Nk,Bool.and_eq_true,decide_eq_true_eq]at this;exact e this.1
      have hxn: ¬Dj x y=true-> ¬Kn l l'=true:=fun e h=>by
       have:=(G7.1 h).2 k _ _ hx hy;simp only[Nk,Bool.and_eq_true,decide_eq_true_eq]at this;exact e this.2
      obtain⟨Hkn,Hxn⟩:=hid2 hkn hxn;have hz:=hbw.out.size;have c0:=((hL.below hg hbw.out).at_ hx).1;have e0:=((hL'.below hg' hbw.out).at_ hy).1;simp only at c0 e0;have HT:=qz (Sh key key' wr.drew (by omega) (by omega));have HL:Hid (∀w',Below w.heap.size w w'->Ap w' w.heap.size l g off):=fun w' h=>hL.below hg h;have HL':Hid (∀w',Below w.heap.size w w'->Ap w' w.heap.size l' g' off'):=fun w' h=>hL'.below hg' h;obtain⟨Hx,Hy⟩:=hid2 hx hy;obtain⟨Q,hQ⟩: ∃Q:Prop,(Dj x y=true)=Q:=⟨_,rfl⟩;have CC: ∀(w':World) (ca cb:List Value),Ac w' w'.heap.size x ca->Ac w' w'.heap.size y cb->Calls Tryz.prog 50 #[.agg ca.toArray,.agg cb.toArray] w' (Az Q w'):=by
       intro w' ca cb h1 h2;rw[<-hQ];exact IHx y ca cb w' h1 h2 (by omega) (by omega)
      rw[hQ]at hxy;have Hxy:=qz hxy;have Hxn':Hid (¬Q-> ¬Kn l l'=true):=by rw[<-hQ];exact Hxn
      have HC:=qz CC;clear CC hQ hxy hkn hxn Hxn IHx hxb hyb hxm hym hx hy hL hL' hg hg' ht;go_wp2_with (fail)
      go_still_tail 12,(by kernel_rfl)
      change wpList _ _ _ _ _ wr.drew;go_wp2_with (fail);(with_reducible refine(HT.out).mono ?_);rintro e w4 ⟨c,rfl,hc,hb4⟩
      all_goals
       have Hc:=qz hc;have hb4':Below wr.heap.size wr w4:=(Below.drew (Below.refl _ _)).trans hb4;have hbw4:=qz (hbw.out.trans (hb4'.mono hz));have hx1':=qz ((hb4'.block _ (by omega)).trans hx1.out);have hx2':=qz ((hb4'.block _ z2).trans hx2.out);have hz4:w.heap.size<=w4.heap.size:=hbw4.out.size;have z4:w.heap.size+1<w4.heap.size:=(Array.getElem?_eq_some_iff.1 hx2'.out).1;clear hc hb4 hb4' hbw hx1 hx2 HT c0 e0 b1 b2;by_cases hc0:c=0
       . have hkk:=qz (Hc.out.1 hc0);subst hc0;clear Hc;have b1:w4.cell? ⟨w.heap.size,5,none⟩=some (.slice (some ⟨g,off,none⟩) l.length oc):=by rw[Lib.cell_of_heap hx1'.out];rfl
         have b2:w4.cell? ⟨w.heap.size+1,5,none⟩=some (.slice (some ⟨g',off',none⟩) l'.length oc'):=by rw[Lib.cell_of_heap hx2'.out];rfl
         obtain⟨k1,b1',n1,t1,l1,o1⟩:=x;obtain⟨k2,b2',n2,t2,l2,o2⟩:=y;obtain⟨la1,lc1,oa1,oc1,hv1,_,c1,c2,c3,c4,c5,c6⟩:=(HL.out _ hbw4.out).seven Hx.out;obtain⟨la2,lc2,oa2,oc2,hv2,_,e1,e2,e3,e4,e5,e6⟩:=(HL'.out _ hbw4.out).seven Hy.out;have hC4:=qz (HC.out w4.drew _ _ (Ac.more hz4 _ _ (hv1.below (Below.drew (Below.refl _ _)))) (Ac.more hz4 _ _ (hv2.below (Below.drew (Below.refl _ _)))));clear HC hv1 hv2 HL HL' Hx Hy;go_wp2_with (fail)
         go_still_tail 12,(by kernel_rfl)
         change wpList _ _ _ _ _ w4.drew;go_wp2_with (fail);(with_reducible refine(hC4.out).mono ?_);rintro e w5 ⟨c',rfl,hc',hb5⟩
         all_goals
          have Hc:=qz hc';have hb5':Below w4.heap.size w4 w5:=(Below.drew (Below.refl _ _)).trans hb5;have hbw5:=qz (hbw4.out.trans (hb5'.mono hz4));have hx1'':=qz ((hb5'.block _ (by omega)).trans hx1'.out);have hx2'':=qz ((hb5'.block _ z4).trans hx2'.out);clear hc' hb5 hb5' hbw4 hx1' hx2' hC4 c1 c2 c3 c4 c5 c6 e1 e2 e3 e4 e5 e6 b1 b2;by_cases hc0:c'=0
          . have Hn:=qz (Hxy.out hkk.out (Hc.out.1 hc0));subst hc0;clear Hc;go_wp2;go_roundw
            case rel=>exact⟨k+1,by go_num,by omega,by omega,Hn,hbw5,hx1'',hx2''⟩
            case measure=>simp only[intOf];omega
          . have hne:=Hxn'.out (fun e=>hc0 (Hc.out.2 e));have f1:(c'==0)=false:=by simpa using hc0
            have f2:(c' != 0)=true:=by simpa using hc0
            have Hf:Hid (c'=0 ↔ p):=⟨fun e=>absurd e hc0,fun e=>absurd (Hp.out.2 e) hne⟩;clear Hc hne hc0;go_wp2;go_ret;exact Az.of Hf.out hbw5.out
       . have hne:=Hkn.out (fun e=>hc0 (Hc.out.2 e));have f1:(c==0)=false:=by simpa using hc0
         have f2:(c != 0)=true:=by simpa using hc0
         have Hf:Hid (c=0 ↔ p):=⟨fun e=>absurd e hc0,fun e=>absurd (Hp.out.2 e) hne⟩;clear Hc hne hc0;go_wp2;go_ret;exact Az.of Hf.out hbw4.out
    . have hk2:k=l'.length:=by omega
      subst hk2;have hne: ¬Kn l l'=true:=fun h=>by have:=(G7.1 h).1;omega
      obtain⟨C,hC⟩: ∃C,Ir (l.length:Int) (l'.length:Int)=C:=⟨_,rfl⟩;have cN:=fun w=>Fz (l.length:Int) (l'.length:Int) w;rw[hC]at cN;have HN:=qz cN;have hcz:C≠0:=by rw[<-hC,Ne,Dn];omega
      have Hf:Hid (C=0 ↔ p):=⟨fun e=>absurd e hcz,fun e=>absurd (Hp.out.2 e) hne⟩;clear cN hC hcz hne ht hl hl';go_wp2_with (fail);(with_reducible refine(HN.out _).mono ?_);rintro e w' ⟨rfl,rfl⟩;go_wp2;go_ret;exact Az.of Hf.out hbw.out
  . have hk2:k=l.length:=by omega
    subst hk2;obtain⟨C,hC⟩: ∃C,Ir (l.length:Int) (l'.length:Int)=C:=⟨_,rfl⟩;have cN:=fun w=>Fz (l.length:Int) (l'.length:Int) w;rw[hC]at cN;have HN:=qz cN;have Hf:Hid (C=0 ↔ p):=by
     show _ ↔ _;rw[<-hC,Dn,<-Hp.out];constructor
     . intro h;exact G7.2 ⟨by omega,fun j x y h1 h2=>ht.out j x y (List.getElem?_eq_some_iff.1 h1).1 h1 h2⟩
     . intro h;have:=(G7.1 h).1;omega
    clear cN hC ht hl hl';go_wp2_with (fail);(with_reducible refine(HN.out _).mono ?_);rintro e w' ⟨rfl,rfl⟩;go_wp2;go_ret;exact Az.of Hf.out hbw.out
theorem Air: ∀a,Ajj a:=by
 refine Val.ind ?_;intro k b n t l o IHl IHo v cs cs' w hV hV' hb hb';obtain⟨k',b',n',t',l',o'⟩:=v;simp only[Ac]at hV hV';obtain⟨la,lc,oa,oc,rfl,hla,hoa⟩:=hV;obtain⟨la',lc',oa',oc',rfl,hla',hoa'⟩:=hV';simp only[Val.bulk]at hb hb';by_cases hkk:k≠k'
 . exact Ajv k k' b b' n n' t t' _ _ _ _ w hkk _ (fun e=>by simp only[Dj,Bool.and_eq_true,decide_eq_true_eq]at e;exact hkk e.1)
 obtain rfl:k=k':=by omega
 by_cases h2:k=2
 . subst h2;exact Aju b b' n n' t t' _ _ _ _ w _ (by simp[Dj])
 by_cases h3:k=3
 . subst h3;exact Ama b b' n n' t t' _ _ _ _ w _ (by simp[Dj])
 by_cases h4:k=4
 . subst h4;exact Ajw b b' n n' t t' _ _ _ _ w _ (by omega) (by omega) (by simp[Dj])
 by_cases h5:k=5
 . subst h5;exact Als b b' n n' t t' l l' _ _ la oa la' oa' lc oc lc' oc' w IHl _ (by simp[Dj]) hla hla' (by omega) (by omega)
 by_cases h6:k=6
 . subst h6;exact Ana b b' n n' t t' o o' _ _ la oa la' oa' lc oc lc' oc' w IHo _ (by simp[Dj]) hoa hoa' (by omega) (by omega)
 exact Amc k h2 h3 h4 h5 h6 b b' n n' t t' _ _ _ _ w _ (by simp[Dj,h2,h3,h4,h5,h6])
theorem Akq {a b:ByteArray} (h:a≠b):(a==b)=false/\(a != b)=true/\(a.toList==b.toList)=false/\(a.toList != b.toList)=true:=by
 have h1:(a==b)=false:=by
  obtain⟨a⟩:=a;obtain⟨b⟩:=b;have e:((⟨a⟩:ByteArray)==⟨b⟩)=(a==b):=rfl;rw[e];simpa using h
 have h2:(a.toList==b.toList)=false:=by
  rw[ByteArray.toList_eq,ByteArray.toList_eq,beq_eq_false_iff_ne];intro e;exact h (by
   obtain⟨⟨a⟩⟩:=a;obtain⟨⟨b⟩⟩:=b;simpa using e)
 exact⟨h1,by rw[bne,h1];rfl,h2,by rw[bne,h2];rfl⟩
theorem Akp (a:ByteArray):(a==a)=true/\(a != a)=false/\(a.toList==a.toList)=true/\(a.toList != a.toList)=false:=by
 have h1:(a==a)=true:=by
  obtain⟨a⟩:=a;have e:((⟨a⟩:ByteArray)==⟨a⟩)=(a==a):=rfl;rw[e];simp
 exact⟨h1,by rw[bne,h1];rfl,by simp,by simp⟩
def Aji (a:Val):Prop:= ∀(b:Val) (cs cs':List Value) (w:World),Ac w w.heap.size a cs->Ac w w.heap.size b cs'->a.bulk<=100000000->b.bulk<=100000000->
    Calls Tryz.prog 111 #[.agg cs.toArray,.agg cs'.toArray] w (Az (Dj a b=true) w)
theorem Ad5 (key key':ByteArray) (a0 a1 a2 a3 a4 a5 b0 b1 b2 b3 b4 b5:Value) (w:World) (Q:Prop)
 (hC: ∀W,Below w.heap.size w W->Calls Tryz.prog 111 #[.agg #[a0,a1,a2,a3,a4,a5],.agg #[b0,b1,b2,b3,b4,b5]] W (Az Q W)):
 Calls Tryz.prog 181 #[.agg #[.string key,a0,a1,a2,a3,a4,a5],.agg #[.string key',b0,b1,b2,b3,b4,b5]] w (Az (key=key'/\Q) w):=by
 have HA:=qz (fun W=>U3 key key' W);have HC:=qz hC;clear hC;go_enter Tryz.func181,Tryz.ntmps181;go_wp2_with (fail);(with_reducible refine(HA.out _).mono ?_);rintro e w1 ⟨c,rfl,hc,rfl⟩;by_cases hc0:c=0
 . have hk:=hc.1 hc0;subst hc0;have Hk:=qz hk;clear hk;clear hc;go_wp2_with (fail);(with_reducible refine(HC.out _ (B6 _ _ _)).mono ?_);rintro e w' ⟨c',rfl,hc',hb'⟩;have hf:c'=0 ↔ key=key'/\Q:=⟨fun e=>⟨Hk.out,hc'.1 e⟩,fun e=>hc'.2 e.2⟩;have Hw:=qz ((B6 w (.cells #[.string key,a0,a1,a2,a3,a4,a5] 94) (.cells #[.string key',b0,b1,b2,b3,b4,b5] 94)).trans (hb'.mono (by simp;omega)));have Hf:=qz hf;clear hf;clear hc' hb';go_wp2;go_ret;exact Az.of Hf.out Hw.out
 . have hf:c=0 ↔ key=key'/\Q:=⟨fun e=>absurd e hc0,fun e=>absurd (hc.2 e.1) hc0⟩;have f1:(c==0)=false:=by simpa using hc0
   have f2:(c != 0)=true:=by simpa using hc0
   have Hf:=qz hf;clear hf;clear hc hc0;go_wp2;go_ret;exact Az.of Hf.out (B6 _ _ _)
theorem Za (l l':List Val) (la la':Option Addr) (lc lc' B0:Nat) (w:World) (hB0:B0<=w.heap.size) (IH: ∀v ∈ l,Aji v)
 (hl:l= []\/ ∃g off,la=some ⟨g,off,none⟩/\g<B0/\Ao w B0 l g off) (hl':l'= []\/ ∃g off,la'=some ⟨g,off,none⟩/\g<B0/\Ao w B0 l' g off)
 (hb:Bf l<=100000000) (hb':Bf l'<=100000000):
 Calls Tryz.prog 179 #[.slice la l.length lc,.slice la' l'.length lc',.func (.func 111) #[] #[]] w (Az (Lc l l'=true) w):=by
 have hln:=Dt l;have hln':=Dt l';have HI:=qz IH;have H0:Hid (∀j x y,j<0->l[j]? =some x->l'[j]? =some y->Dj x y=true):=fun _ _ _ e=>absurd e (Nat.not_lt_zero _);have HBB:Hid (Below w.heap.size w w):=Below.refl _ _;obtain⟨p,hp⟩: ∃p:Prop,(Lc l l'=true)=p:=⟨_,rfl⟩;rw[hp];have Hp:=qz hp;clear IH hp;obtain⟨M,⟨hM1,hM2,hM3⟩,hM⟩: ∃M:Nat,(M<=l.length/\M<=l'.length/\(M=l.length\/M=l'.length))/\(min (l.length:Int) (l'.length:Int))=M:=⟨min l.length l'.length,⟨by omega,by omega,by omega⟩,by omega⟩;have hM':(if(l'.length:Int)<(l.length:Int)then(l'.length:Int)else(l.length:Int))=M:=by rw[<-hM];split<;>omega
 have hM'':(if(l.length:Int)<(l'.length:Int)then(l.length:Int)else(l'.length:Int))=M:=by rw[<-hM];split<;>omega
 go_enter Tryz.func179,Tryz.ntmps179;go_wp2_with (fail);go_loopw [14] (fun i wr=> ∃k:Nat,i=.int .i64 k/\k<=M/\Hid (∀j x y,j<k->l[j]? =some x->l'[j]? =some y->Dj x y=true)/\Hid (Below w.heap.size w wr)) (fun i _=>M - (intOf i).toNat)
 case atStart=>exact⟨0,rfl,Nat.zero_le _,H0,HBB⟩
 case round=>
  obtain⟨k,rfl,hk,ht,hbw⟩:=hrel;clear H0 HBB hM hM' hM'';by_cases hlt:k<M
  . have hk1:k<l.length:=by omega
    have hk2:k<l'.length:=by omega
    have hz:=hbw.out.size;obtain⟨g,off,rfl,hg,hL⟩: ∃g off,la=some ⟨g,off,none⟩/\g<B0/\Ao w B0 l g off:=by
     rcases hl with rfl|h
     . simp at hk1
     . exact h
    obtain⟨g',off',rfl,hg',hL'⟩: ∃g off,la'=some ⟨g,off,none⟩/\g<B0/\Ao w B0 l' g off:=by
     rcases hl' with rfl|h
     . simp at hk2
     . exact h
    obtain⟨x,hx⟩: ∃v,l[k]? =some v:=⟨_,List.getElem?_eq_getElem hk1⟩;obtain⟨y,hy⟩: ∃v,l'[k]? =some v:=⟨_,List.getElem?_eq_getElem hk2⟩;have hxm:=List.mem_of_getElem? hx;have hym:=List.mem_of_getElem? hy;have hxb:=D9 hxm;have hyb:=D9 hym;have IHx:=HI.out _ hxm;have hxy:Dj x y=true->(∀j x y,j<k+1->l[j]? =some x->l'[j]? =some y->Dj x y=true):=by
     intro e j x' y' hj h1 h2;rcases Nat.lt_succ_iff_lt_or_eq.1 hj with hj|rfl
     . exact ht.out j x' y' hj h1 h2
     . rw[hx]at h1;rw[hy]at h2;rw[<-Option.some.inj h1,<-Option.some.inj h2];exact e
    have hxn: ¬Dj x y=true-> ¬p:=fun e h=>by
     rw[<-Hp.out]at h;exact e ((Ji.1 h).2 k x y hx hy)
    obtain⟨k1,b1',n1,t1,l1,o1⟩:=x;obtain⟨k2,b2',n2,t2,l2,o2⟩:=y;obtain⟨la1,lc1,oa1,oc1,hv1,c0,c1,c2,c3,c4,c5⟩:=(hL.below hg (hbw.out.mono hB0)).six hx;obtain⟨la2,lc2,oa2,oc2,hv2,e0,e1,e2,e3,e4,e5⟩:=(hL'.below hg' (hbw.out.mono hB0)).six hy;have CC:=fun(W:World) (hW:Below wr.heap.size wr W)=>IHx _ _ _ W (Ac.more (Nat.le_trans hB0 (Nat.le_trans hz hW.size)) _ _ (hv1.below (hW.mono (Nat.le_trans hB0 hz)))) (Ac.more (Nat.le_trans hB0 (Nat.le_trans hz hW.size)) _ _ (hv2.below (hW.mono (Nat.le_trans hB0 hz)))) (by omega) (by omega);obtain⟨Q,hQ⟩: ∃Q:Prop,(Dj (Val.mk k1 b1' n1 t1 l1 o1) (Val.mk k2 b2' n2 t2 l2 o2)=true)=Q:=⟨_,rfl⟩;rw[hQ]at CC hxy;have Hxn:Hid (¬Q-> ¬p):=by rw[<-hQ];exact hxn
    have hgr:g<wr.heap.size:=by omega
    have hgr':g'<wr.heap.size:=by omega
    have hq1:(k:Int)<(M:Int):=by omega
    have hq2:(k:Int)<(l.length:Int):=by omega
    have hq3:(k:Int)<(l'.length:Int):=by omega
    have hq0:(0:Int)<=k:=by omega
    obtain⟨CC',Hxy⟩:=hid2 CC hxy;clear CC hxy;clear hQ hxn IHx hxb hyb hxm hym hv1 hv2 hx hy hL hL' hg hg' ht;go_upto_region 4 with(fail)
    go_region_with (go_at_call 111;(with_reducible refine(CC'.out _ (Below.drew (Below.refl _ _))).mono ?_);rintro e w4 ⟨c,rfl,hc,hb4⟩)
    all_goals
     have Hc:=qz hc;have hb4':Below wr.heap.size wr w4:=(Below.drew (Below.refl _ _)).trans hb4;have hbw4:=qz (hbw.out.trans (hb4'.mono hz));clear hc hb4 hb4' hbw CC' c0 c1 c2 c3 c4 c5 e0 e1 e2 e3 e4 e5;by_cases hc0:c=0
     . have Hn:=qz (Hxy.out (Hc.out.1 hc0));subst hc0;clear Hc;go_wp2;go_roundw
       case rel=>exact⟨k+1,by go_num,by omega,Hn,hbw4⟩
       case measure=>simp only[intOf];omega
     . have hne:=Hxn.out (fun e=>hc0 (Hc.out.2 e));have f1:(c==0)=false:=by simpa using hc0
       have f2:(c != 0)=true:=by simpa using hc0
       have Hf:Hid (c=0 ↔ p):=⟨fun e=>absurd e hc0,fun e=>absurd e hne⟩;clear Hc hne hc0;go_wp2;go_ret;exact Az.of Hf.out hbw4.out
  . obtain rfl:k=M:=by omega
    have hq1: ¬(k:Int)<(k:Int):=by omega
    have cN:=fun w=>T6 (l.length:Int) (l'.length:Int) w;obtain⟨C,hC⟩: ∃C,Ir (l.length:Int) (l'.length:Int)=C:=⟨_,rfl⟩;rw[hC]at cN;have HN:=qz cN;have Hf:Hid (C=0 ↔ p):=by
     show _ ↔ _;rw[<-hC,Dn,<-Hp.out];constructor
     . intro h;exact Ji.2 ⟨by omega,fun j x y h1 h2=>ht.out j x y (by have:=(List.getElem?_eq_some_iff.1 h1).1;omega) h1 h2⟩
     . intro h;have:=(Ji.1 h).1;omega
    clear cN hC ht hl hl';go_wp2_with (fail);(with_reducible refine(HN.out _).mono ?_);rintro e w' ⟨rfl,rfl⟩;go_wp2;go_ret;exact Az.of Hf.out hbw.out
theorem Zb (l l':List (ByteArray×Val)) (la la':Option Addr) (lc lc' B0:Nat) (w:World) (hB0:B0<=w.heap.size) (IH: ∀m ∈ l,Aji m.2)
 (hl:l= []\/ ∃g off,la=some ⟨g,off,none⟩/\g<B0/\Ap w B0 l g off) (hl':l'= []\/ ∃g off,la'=some ⟨g,off,none⟩/\g<B0/\Ap w B0 l' g off)
 (hb:Ab l<=100000000) (hb':Ab l'<=100000000):
 Calls Tryz.prog 180 #[.slice la l.length lc,.slice la' l'.length lc',.func (.func 181) #[] #[]] w (Az (Kn l l'=true) w):=by
 have hln:=Bc l;have hln':=Bc l';have HI:=qz IH;have H0:Hid (∀j x y,j<0->l[j]? =some x->l'[j]? =some y->Nk x y=true):=fun _ _ _ e=>absurd e (Nat.not_lt_zero _);have HBB:Hid (Below w.heap.size w w):=Below.refl _ _;obtain⟨p,hp⟩: ∃p:Prop,(Kn l l'=true)=p:=⟨_,rfl⟩;rw[hp];have Hp:=qz hp;clear IH hp;obtain⟨M,⟨hM1,hM2,hM3⟩,hM⟩: ∃M:Nat,(M<=l.length/\M<=l'.length/\(M=l.length\/M=l'.length))/\(min (l.length:Int) (l'.length:Int))=M:=⟨min l.length l'.length,⟨by omega,by omega,by omega⟩,by omega⟩;have hM':(if(l'.length:Int)<(l.length:Int)then(l'.length:Int)else(l.length:Int))=M:=by rw[<-hM];split<;>omega
 have hM'':(if(l.length:Int)<(l'.length:Int)then(l.length:Int)else(l'.length:Int))=M:=by rw[<-hM];split<;>omega
 go_enter Tryz.func180,Tryz.ntmps180;go_wp2_with (fail);go_loopw [14] (fun i wr=> ∃k:Nat,i=.int .i64 k/\k<=M/\Hid (∀j x y,j<k->l[j]? =some x->l'[j]? =some y->Nk x y=true)/\Hid (Below w.heap.size w wr)) (fun i _=>M - (intOf i).toNat)
 case atStart=>exact⟨0,rfl,Nat.zero_le _,H0,HBB⟩
 case round=>
  obtain⟨k,rfl,hk,ht,hbw⟩:=hrel;clear H0 HBB hM hM' hM'';by_cases hlt:k<M
  . have hk1:k<l.length:=by omega
    have hk2:k<l'.length:=by omega
    have hz:=hbw.out.size;obtain⟨g,off,rfl,hg,hL⟩: ∃g off,la=some ⟨g,off,none⟩/\g<B0/\Ap w B0 l g off:=by
     rcases hl with rfl|h
     . simp at hk1
     . exact h
    obtain⟨g',off',rfl,hg',hL'⟩: ∃g off,la'=some ⟨g,off,none⟩/\g<B0/\Ap w B0 l' g off:=by
     rcases hl' with rfl|h
     . simp at hk2
     . exact h
    obtain⟨x,hx⟩: ∃v,l[k]? =some v:=⟨_,List.getElem?_eq_getElem hk1⟩;obtain⟨y,hy⟩: ∃v,l'[k]? =some v:=⟨_,List.getElem?_eq_getElem hk2⟩;have hxm:=List.mem_of_getElem? hx;have hym:=List.mem_of_getElem? hy;have hxb:=Bz hxm;have hyb:=Bz hym;have IHx:=HI.out _ hxm;have hxy:Nk x y=true->(∀j x y,j<k+1->l[j]? =some x->l'[j]? =some y->Nk x y=true):=by
     intro e j x' y' hj h1 h2;rcases Nat.lt_succ_iff_lt_or_eq.1 hj with hj|rfl
     . exact ht.out j x' y' hj h1 h2
     . rw[hx]at h1;rw[hy]at h2;rw[<-Option.some.inj h1,<-Option.some.inj h2];exact e
    have hxn: ¬Nk x y=true-> ¬p:=fun e h=>by
     rw[<-Hp.out]at h;exact e ((G7.1 h).2 k x y hx hy)
    obtain⟨key,⟨k1,b1',n1,t1,l1,o1⟩⟩:=x;obtain⟨key',⟨k2,b2',n2,t2,l2,o2⟩⟩:=y;obtain⟨la1,lc1,oa1,oc1,hv1,c0,c1,c2,c3,c4,c5,c6⟩:=(hL.below hg (hbw.out.mono hB0)).seven hx;obtain⟨la2,lc2,oa2,oc2,hv2,e0,e1,e2,e3,e4,e5,e6⟩:=(hL'.below hg' (hbw.out.mono hB0)).seven hy;simp only at IHx hxb hyb;have CC:=fun(W:World) (hW:Below wr.heap.size wr W)=>Ad5 key key' _ _ _ _ _ _ _ _ _ _ _ _ W _ (fun W' hW'=>IHx _ _ _ W' (Ac.more (Nat.le_trans hB0 (Nat.le_trans hz (Nat.le_trans hW.size hW'.size))) _ _ ((hv1.below (hW.mono (Nat.le_trans hB0 hz))).below (hW'.mono (Nat.le_trans hB0 (Nat.le_trans hz hW.size))))) (Ac.more (Nat.le_trans hB0 (Nat.le_trans hz (Nat.le_trans hW.size hW'.size))) _ _ ((hv2.below (hW.mono (Nat.le_trans hB0 hz))).below (hW'.mono (Nat.le_trans hB0 (Nat.le_trans hz hW.size))))) (by omega) (by omega));obtain⟨Q,hQ⟩: ∃Q:Prop,(Nk (key,Val.mk k1 b1' n1 t1 l1 o1) (key',Val.mk k2 b2' n2 t2 l2 o2)=true)=Q:=⟨_,rfl⟩;have hQ2:(key=key'/\Dj (Val.mk k1 b1' n1 t1 l1 o1) (Val.mk k2 b2' n2 t2 l2 o2)=true)=Q:=by rw[<-hQ];simp[Nk]
    rw[hQ2]at CC;clear hQ2;rw[hQ]at hxy;have Hxn:Hid (¬Q-> ¬p):=by rw[<-hQ];exact hxn
    have hgr:g<wr.heap.size:=by omega
    have hgr':g'<wr.heap.size:=by omega
    have hq1:(k:Int)<(M:Int):=by omega
    have hq2:(k:Int)<(l.length:Int):=by omega
    have hq3:(k:Int)<(l'.length:Int):=by omega
    have hq0:(0:Int)<=k:=by omega
    obtain⟨CC',Hxy⟩:=hid2 CC hxy;clear CC hxy;clear hQ hxn IHx hxb hyb hxm hym hv1 hv2 hx hy hL hL' hg hg' ht;go_upto_region 4 with(fail)
    go_region_with (go_at_call 181;(with_reducible refine(CC'.out _ (Below.drew (Below.refl _ _))).mono ?_);rintro e w4 ⟨c,rfl,hc,hb4⟩)
    all_goals
     have Hc:=qz hc;have hb4':Below wr.heap.size wr w4:=(Below.drew (Below.refl _ _)).trans hb4;have hbw4:=qz (hbw.out.trans (hb4'.mono hz));clear hc hb4 hb4' hbw CC' c0 c1 c2 c3 c4 c5 c6 e0 e1 e2 e3 e4 e5 e6;by_cases hc0:c=0
     . have Hn:=qz (Hxy.out (Hc.out.1 hc0));subst hc0;clear Hc;go_wp2;go_roundw
       case rel=>exact⟨k+1,by go_num,by omega,Hn,hbw4⟩
       case measure=>simp only[intOf];omega
     . have hne:=Hxn.out (fun e=>hc0 (Hc.out.2 e));have f1:(c==0)=false:=by simpa using hc0
       have f2:(c != 0)=true:=by simpa using hc0
       have Hf:Hid (c=0 ↔ p):=⟨fun e=>absurd e hc0,fun e=>absurd e hne⟩;clear Hc hne hc0;go_wp2;go_ret;exact Az.of Hf.out hbw4.out
  . obtain rfl:k=M:=by omega
    have hq1: ¬(k:Int)<(k:Int):=by omega
    have cN:=fun w=>T6 (l.length:Int) (l'.length:Int) w;obtain⟨C,hC⟩: ∃C,Ir (l.length:Int) (l'.length:Int)=C:=⟨_,rfl⟩;rw[hC]at cN;have HN:=qz cN;have Hf:Hid (C=0 ↔ p):=by
     show _ ↔ _;rw[<-hC,Dn,<-Hp.out];constructor
     . intro h;exact G7.2 ⟨by omega,fun j x y h1 h2=>ht.out j x y (by have:=(List.getElem?_eq_some_iff.1 h1).1;omega) h1 h2⟩
     . intro h;have:=(G7.1 h).1;omega
    clear cN hC ht hl hl';go_wp2_with (fail);(with_reducible refine(HN.out _).mono ?_);rintro e w' ⟨rfl,rfl⟩;go_wp2;go_ret;exact Az.of Hf.out hbw.out
theorem Alf (k k':Int) (b b':Bool) (n n':Int) (t t':ByteArray) (x y x' y':Value) (w:World) (p:Prop) (h:k≠k') (hp: ¬p):
 Calls Tryz.prog 111 #[.agg #[.int .i64 k,.bool b,.int .i64 n,.string t,x,y],.agg #[.int .i64 k',.bool b',.int .i64 n',.string t',x',y']] w (Az p w):=by
 have h1:(k==k')=false:=by simpa using h
 have h2:(k != k')=true:=by simpa using h
 obtain⟨C,hC⟩: ∃C,Ir k k'=C:=⟨_,rfl⟩;have cN:=fun w=>Aeq k k' w;rw[hC]at cN;have HN:=qz cN;have Hc:Hid (C=0 ↔ p):=by
  show _ ↔ _;rw[<-hC,Dn];exact⟨fun e=>absurd e h,fun e=>absurd e hp⟩
 clear cN hC h hp;go_enter Tryz.func111,Tryz.ntmps111;go_wp2_with (fail);(with_reducible refine(HN.out _).mono ?_);rintro e w' ⟨rfl,rfl⟩;go_wp2;go_ret;exact Az.of Hc.out (B6 _ _ _)
theorem Am6 (k:Int) (h2:k≠2) (h3:k≠3) (h4:k≠4) (h5:k≠5) (h6:k≠6) (b b':Bool) (n n':Int) (t t':ByteArray) (x y x' y':Value) (w:World) (p:Prop) (hp:p):
 Calls Tryz.prog 111 #[.agg #[.int .i64 k,.bool b,.int .i64 n,.string t,x,y],.agg #[.int .i64 k,.bool b',.int .i64 n',.string t',x',y']] w (Az p w):=by
 have Hp:=qz hp;have e2:(k==2)=false:=by simpa using h2
 have e3:(k==3)=false:=by simpa using h3
 have e4:(k==4)=false:=by simpa using h4
 have e5:(k==5)=false:=by simpa using h5
 have e6:(k==6)=false:=by simpa using h6
 clear hp;go_enter Tryz.func111,Tryz.ntmps111;go_wp2;go_ret;exact Az.of ⟨fun _=>Hp.out,fun _=>rfl⟩ (B6 _ _ _)
theorem Am4 (b b':Bool) (n n':Int) (t t':ByteArray) (x y x' y':Value) (w:World) (p:Prop) (hp:n=n' ↔ p):
 Calls Tryz.prog 111 #[.agg #[.int .i64 3,.bool b,.int .i64 n,.string t,x,y],.agg #[.int .i64 3,.bool b',.int .i64 n',.string t',x',y']] w (Az p w):=by
 obtain⟨C,hC⟩: ∃C,Ir n n'=C:=⟨_,rfl⟩;have cN:=fun w=>Ub n n' w;rw[hC]at cN;have HN:=qz cN;have Hc:Hid (C=0 ↔ p):=by
  show _ ↔ _;rw[<-hC,Dn];exact hp
 clear cN hC hp;go_enter Tryz.func111,Tryz.ntmps111;go_wp2_with (fail);(with_reducible refine(HN.out _).mono ?_);rintro e w' ⟨rfl,rfl⟩;go_wp2;go_ret;exact Az.of Hc.out (B6 _ _ _)
theorem Alh (b b':Bool) (n n':Int) (t t':ByteArray) (x y x' y':Value) (w:World) (p:Prop) (hp:t=t' ↔ p):
 Calls Tryz.prog 111 #[.agg #[.int .i64 4,.bool b,.int .i64 n,.string t,x,y],.agg #[.int .i64 4,.bool b',.int .i64 n',.string t',x',y']] w (Az p w):=by
 have HN:=qz (fun w=>U3 t t' w);have Hp:=qz hp;clear hp;go_enter Tryz.func111,Tryz.ntmps111;go_wp2_with (fail);(with_reducible refine(HN.out _).mono ?_);rintro e w' ⟨c,rfl,hc,rfl⟩;have Hc:=qz (hc.trans Hp.out);clear hc;go_wp2;go_ret;exact Az.of Hc.out (B6 _ _ _)
theorem Ale (b b':Bool) (n n':Int) (t t':ByteArray) (x y x' y':Value) (w:World) (p:Prop) (hp:b=b' ↔ p):
 Calls Tryz.prog 111 #[.agg #[.int .i64 2,.bool b,.int .i64 n,.string t,x,y],.agg #[.int .i64 2,.bool b',.int .i64 n',.string t',x',y']] w (Az p w):=by
 have hR:=fun b w=>Afg b w;have HN:=qz (fun m m' w=>Ub m m' w);have hz:Ir (if b then 1 else 0) (if b' then 1 else 0)=0 ↔ p:=by
  rw[Dn,<-hp]
  cases b<;>cases b'<;>simp
 obtain⟨r,hr⟩: ∃r:Int,(if b=true then 1 else 0)=r:=⟨_,rfl⟩;obtain⟨r',hr'⟩: ∃r:Int,(if b'=true then 1 else 0)=r:=⟨_,rfl⟩;have hR1:=fun w=>hR b w;have hR2:=fun w=>hR b' w;rw[hr]at hz hR1;rw[hr']at hz hR2;obtain⟨HR1,HR2,Hz⟩:=hid3 hR1 hR2 hz;clear hR1 hR2 hz;clear hR hp hr hr';go_enter Tryz.func111,Tryz.ntmps111;go_upto_region 9 with(fail)
 go_region_with (first|(go_at_call 176;first|((with_reducible refine(HR1.out _).mono ?_);rintro e w1 ⟨rfl,rfl⟩)|((with_reducible refine(HR2.out _).mono ?_);rintro e w1 ⟨rfl,rfl⟩)))
 all_goals
  go_wp2_with (fail);(with_reducible refine(HN.out _ _ _).mono ?_);rintro e w' ⟨rfl,rfl⟩;go_wp2;go_ret;exact Az.of Hz.out (Below.drew (B6 _ _ _))
theorem Alg (b b':Bool) (n n':Int) (t t':ByteArray) (l l':List Val) (on on':Nat) (la oa la' oa':Option Addr) (lc oc lc' oc':Nat) (w:World) (p:Prop) (IH: ∀v ∈ l,Aji v) (hp:Lc l l'=true ↔ p)
 (hl:l= []\/ ∃g off,la=some ⟨g,off,none⟩/\g<w.heap.size/\Ao w w.heap.size l g off) (hl':l'= []\/ ∃g off,la'=some ⟨g,off,none⟩/\g<w.heap.size/\Ao w w.heap.size l' g off)
 (hb:Bf l<=100000000) (hb':Bf l'<=100000000):
 Calls Tryz.prog 111 #[.agg #[.int .i64 5,.bool b,.int .i64 n,.string t,.slice la l.length lc,.slice oa on oc],.agg #[.int .i64 5,.bool b',.int .i64 n',.string t',.slice la' l'.length lc',.slice oa' on' oc']] w (Az p w):=by
 have hC:=fun(W:World) (hB:Below w.heap.size w W)=>Za l l' la la' lc lc' w.heap.size W hB.size IH
  (hl.imp id fun⟨g,off,e,hg,h⟩=>⟨g,off,e,hg,h.below hg hB⟩) (hl'.imp id fun⟨g,off,e,hg,h⟩=>⟨g,off,e,hg,h.below hg hB⟩) hb hb'
 simp only[propext hp]at hC;have HC:=qz hC;clear hC;clear IH hp hl hl' hb hb';go_enter Tryz.func111,Tryz.ntmps111;go_wp2_with (fail);(with_reducible refine(HC.out _ (B6 _ _ _)).mono ?_);rintro e w' ⟨c,rfl,hc,hb⟩;have Hw:=qz ((B6 w (.cells #[.int .i64 5,.bool b,.int .i64 n,.string t,.slice la l.length lc,.slice oa on oc] 37) (.cells #[.int .i64 5,.bool b',.int .i64 n',.string t',.slice la' l'.length lc',.slice oa' on' oc'] 37)).trans (hb.mono (by simp;omega)));have Hc:=qz hc;clear hc;clear hb;go_wp2;go_ret;exact Az.of Hc.out Hw.out
theorem Am5 (b b':Bool) (n n':Int) (t t':ByteArray) (l l':List (ByteArray×Val)) (ln ln':Nat) (la oa la' oa':Option Addr) (lc oc lc' oc':Nat) (w:World) (p:Prop) (IH: ∀m ∈ l,Aji m.2) (hp:Kn l l'=true ↔ p)
 (hl:l= []\/ ∃g off,oa=some ⟨g,off,none⟩/\g<w.heap.size/\Ap w w.heap.size l g off) (hl':l'= []\/ ∃g off,oa'=some ⟨g,off,none⟩/\g<w.heap.size/\Ap w w.heap.size l' g off)
 (hb:Ab l<=100000000) (hb':Ab l'<=100000000):
 Calls Tryz.prog 111 #[.agg #[.int .i64 6,.bool b,.int .i64 n,.string t,.slice la ln lc,.slice oa l.length oc],.agg #[.int .i64 6,.bool b',.int .i64 n',.string t',.slice la' ln' lc',.slice oa' l'.length oc']] w (Az p w):=by
 have hC:=fun(W:World) (hB:Below w.heap.size w W)=>Zb l l' oa oa' oc oc' w.heap.size W hB.size IH
  (hl.imp id fun⟨g,off,e,hg,h⟩=>⟨g,off,e,hg,h.below hg hB⟩) (hl'.imp id fun⟨g,off,e,hg,h⟩=>⟨g,off,e,hg,h.below hg hB⟩) hb hb'
 simp only[propext hp]at hC;have HC:=qz hC;clear hC;clear IH hp hl hl' hb hb';go_enter Tryz.func111,Tryz.ntmps111;go_wp2_with (fail);(with_reducible refine(HC.out _ (B6 _ _ _)).mono ?_);rintro e w' ⟨c,rfl,hc,hb⟩;have Hw:=qz ((B6 w (.cells #[.int .i64 6,.bool b,.int .i64 n,.string t,.slice la ln lc,.slice oa l.length oc] 37) (.cells #[.int .i64 6,.bool b',.int .i64 n',.string t',.slice la' ln' lc',.slice oa' l'.length oc'] 37)).trans (hb.mono (by simp;omega)));have Hc:=qz hc;clear hc;clear hb;go_wp2;go_ret;exact Az.of Hc.out Hw.out
theorem Afc: ∀a,Aji a:=by
 refine Val.ind ?_;intro k b n t l o IHl IHo v cs cs' w hV hV' hb hb';obtain⟨k',b',n',t',l',o'⟩:=v;simp only[Ac]at hV hV';obtain⟨la,lc,oa,oc,rfl,hla,hoa⟩:=hV;obtain⟨la',lc',oa',oc',rfl,hla',hoa'⟩:=hV';simp only[Val.bulk]at hb hb';by_cases hkk:k≠k'
 . exact Alf k k' b b' n n' t t' _ _ _ _ w _ hkk (fun e=>by simp only[Dj,Bool.and_eq_true,decide_eq_true_eq]at e;exact hkk e.1)
 obtain rfl:k=k':=by omega
 by_cases h2:k=2
 . subst h2;exact Ale b b' n n' t t' _ _ _ _ w _ (by simp[Dj])
 by_cases h3:k=3
 . subst h3;exact Am4 b b' n n' t t' _ _ _ _ w _ (by simp[Dj])
 by_cases h4:k=4
 . subst h4;exact Alh b b' n n' t t' _ _ _ _ w _ (by simp[Dj])
 by_cases h5:k=5
 . subst h5;exact Alg b b' n n' t t' l l' _ _ la oa la' oa' lc oc lc' oc' w _ IHl (by simp[Dj]) hla hla' (by omega) (by omega)
 by_cases h6:k=6
 . subst h6;exact Am5 b b' n n' t t' o o' _ _ la oa la' oa' lc oc lc' oc' w _ IHo (by simp[Dj]) hoa hoa' (by omega) (by omega)
 exact Am6 k h2 h3 h4 h5 h6 b b' n n' t t' _ _ _ _ w _ (by simp[Dj,h2,h3,h4,h5,h6])
theorem Adg (v v':Val) (cs cs':List Value) (w:World) (hV:Ac w w.heap.size v cs) (hV':Ac w w.heap.size v' cs') (hb:v.bulk<=100000000) (hb':v'.bulk<=100000000):
 Calls Tryz.prog 62 #[.agg cs.toArray,.agg cs'.toArray] w (Bt (Dj v v'=true) w):=by
 have hC:=fun(W:World) (hB:Below w.heap.size w W)=>Afc v v' cs cs' W (Ac.more hB.size _ _ (hV.below hB)) (Ac.more hB.size _ _ (hV'.below hB)) hb hb';generalize Dj v v'=B at hC ⊢;obtain⟨k,b,n,t,l,o⟩:=v;obtain⟨k',b',n',t',l',o'⟩:=v';simp only[Ac]at hV hV';obtain⟨la,lc,oa,oc,rfl,hla,hoa⟩:=hV;obtain⟨la',lc',oa',oc',rfl,hla',hoa'⟩:=hV';have HC:=qz hC;clear hC;clear hla hoa hla' hoa';go_enter Tryz.func62,Tryz.ntmps62;go_wp2_with (fail);(with_reducible refine(HC.out _ (Ct _ _ _)).mono ?_);rintro e w1 ⟨c,rfl,hc,hb1⟩;have hw:=(Ct w (.cells #[.int .i64 k,.bool b,.int .i64 n,.string t,.slice la l.length lc,.slice oa o.length oc] 37) (.cells #[.int .i64 k',.bool b',.int .i64 n',.string t',.slice la' l'.length lc',.slice oa' o'.length oc'] 37)).trans (hb1.mono (by simp;omega));by_cases h0:c=0
 . have h1:=hc.1 h0;subst h0;obtain⟨Hw,H1⟩:=hid2 hw h1;clear hw h1;clear hc hb1;go_wp2;go_ret;exact Bt.yes H1.out Hw.out
 . have h1: ¬(B=true):=fun e=>h0 (hc.2 e);have f1:(c==0)=false:=by simpa using h0
   obtain⟨Hw,H1⟩:=hid2 hw h1;clear hw h1;clear hc hb1 h0;go_wp2;go_ret;exact Bt.no H1.out Hw.out
end Go.Proofs.YtkmcjfkokoidcaaGreatDoor
