/- Parts, joined: What is read as a mutator is its object. Plain. No condition. What is read as a mutator is its object, to any depth. Plain. No condition. A mutator that may be is read of its object. Plain. No condition. mutator.caught: the error by which a call left that was caught. No condition. mutator.caught, of the closure by which Of reads: the error by which that left. No condition. The mutator of a text, or why of none; the chapter's rows. Plain. No condition. commonplaceref11.Equal: no, where two mutators' fields differ. No condition. The tables and the two errors that the rows list: a world for the witnesses. No condition. What the rows' listed tables give the walks. No condition. The last step of a law's row: the answer is true and the arguments read as they did. No condition. What the pulls' rows' listed errors give the walks. No condition. -/
import Derived.Test.YtkkbplakgldlpaaGreatDoorProg
import Derived.Defers
import Derived.Recover
import Derived.Laws.Pointers
import Derived.Deep.RegionHeld3
import Derived.Test.YtkkbplakgldlpaaGreatDoorChecked
import Derived.Test.YtkkbplakgldlpaaGreatDoorRows
import Derived.Lay
import Derived.Lib.LaidIn
import Derived.Lib.LaidU8T
import Derived.LaidSub
import Derived.Lib.ItoaNum
import Derived.Deep.DeepHandedRow
import Derived.ProofKit
import Derived.Below
import Derived.ChangeSame
import Derived.WideKeyArgs
import Derived.OpenShut
import Derived.Test.YtkkbplakgldlpaaGreatDoorKMu1
import Derived.Test.YtkkbplakgldlpaaGreatDoorKMu3
import Derived.Test.YtkkbplakgldlpaaGreatDoorKMu4
import Derived.Test.YtkkbplakgldlpaaGreatDoorKMu12
import Derived.Test.YtkkbplakgldlpaaGreatDoorKMu18
import Derived.Test.YtkkbplakgldlpaaGreatDoorKMu22
import Derived.Test.YtkkbplakgldlpaaGreatDoorKMu25
import Derived.Test.YtkkbplakgldlpaaGreatDoorKMu26
import Derived.Test.YtkkbplakgldlpaaGreatDoorKMu30
namespace Go.Proofs.YtkkbplakgldlpaaGreatDoor
end Go.Proofs.YtkkbplakgldlpaaGreatDoor

namespace Go.Proofs.YtkkbplakgldlpaaGreatDoor
end Go.Proofs.YtkkbplakgldlpaaGreatDoor

namespace Go.Proofs.YtkkbplakgldlpaaGreatDoor
theorem empty_nil0 {t:ByteArray} (h:t.toList.isEmpty=true):t=nil0:=toList_inj (by rw[List.isEmpty_iff.1 h];simp[Lib.toList_data])
end Go.Proofs.YtkkbplakgldlpaaGreatDoor

namespace Go.Proofs.YtkkbplakgldlpaaGreatDoor
open Go Go.RowKit
set_option maxRecDepth 100000 in
set_option maxHeartbeats 4000000 in
theorem catch_idle (p:Addr) (w:World):
 CallsD Tryz.prog 58 #[.pointer (some p)] .returning w fun e u' w'=>e=.returned (.tuple #[])∧u'=.returning∧w'=w:=by
 refine callsD_of_wpS Tryz.func58 rfl fun c₀ cs hu=> ?_
 apply wpS_seq
 apply wpS_region
 simp[wpOpsS,go_sem,recoverD,hu,Tryz.ntmps58,Exit.thenS]
 refine wpS_of_wp ?_
 go_wp2
 cases c₀
 simp_all[bodyPostS,results,Tryz.results58]
theorem assert_wrong (W:World) (v:Value):(Instr.typeAssert (.iface 85 v) 20 85 true).run Tryz.prog W=.ok (.tuple #[v,.bool true]) W:=by kernel_rfl
set_option maxRecDepth 100000 in
set_option maxHeartbeats 4000000 in
theorem catch_some (p:Addr) (c x:Int) (w:World) (hc:w.cell? p=some (.int .i64 x)) (hz:w.frozen? p=false) (hp:p.block<w.heap.size):
 CallsD Tryz.prog 58 #[.pointer (some p)] (.panicking [{v:=.iface 85 (.agg #[.int .i64 c]),recovered:=false}]) w fun e u' w'=>
  e=.returned (.tuple #[])∧u'=.panicking [{v:=.iface 85 (.agg #[.int .i64 c]),recovered:=true}]∧w'=(w.alloc (.cells #[.int .i64 c] 85)).setCell p (.int .i64 c):=by
 have hta:=fun w=>assert_wrong w (.agg #[.int .i64 c])
 have hz2:(w.alloc (.cells #[.int .i64 c] 85)).frozen? p=false:=((alloc_below w _).frozen hp).trans hz
 refine callsD_of_wpS Tryz.func58 rfl fun c₀ cs hu=> ?_
 apply wpS_seq
 apply wpS_region
 simp[wpOpsS,go_sem,recoverD,hu,Tryz.ntmps58,Exit.thenS]
 refine wpS_of_wp ?_
 go_wp2
 cases c₀
 simp_all[bodyPostS,results,Tryz.results58]
theorem code_box {w w1:World} {o:Obj} (hb:Below (w.alloc o).heap.size (w.alloc o) w1):Below w.heap.size w w1:=(alloc_below w o).trans (hb.mono (by simp))
set_option maxRecDepth 100000 in
set_option maxHeartbeats 4000000 in
theorem caught_calls (c:Int) (q:Addr) (w:World)
 (hdo: ∀W,Below w.heap.size w W→Calls Tryz.prog 31 #[.pointer (some q)] W fun e w'=>e=endE c∧Below W.heap.size W w'):
 Calls Tryz.prog 30 #[.func (.func 31) #[] #[.pointer (some q)]] w fun e w'=>e=.returned (.int .i64 c)∧Below w.heap.size w w':=by
 have hmf: ∀(fn:Fn) (first cap:Array Value) (w:World),(Instr.makeFunc fn first cap).run Tryz.prog w=.ok (.func fn first cap) w:=fun _ _ _ _=>rfl
 have hx:=Blk.new w 31 #[.int .i64 0]
 have hD:=hdo _ (alloc_below w (.cells #[.int .i64 0] 31))
 have hlt:=hx.lt
 by_cases h0:c=0
 · subst h0
   rw[endE_zero]at hD
   have HD:=Lib.hid hD
   have Hx:=Lib.hid hx
   clear hD hx
   clear hdo
   go_enter_defers Tryz.func30,Tryz.ntmps30
   go_wp2_with (go_at_call 31;(with_reducible refine(HD.out).mono ?_);rintro e w1 ⟨rfl,hb1⟩;have hx1:=Hx.out.below hb1 hlt;have d0:=hx1.cell 0;have f0:=hx1.frozen 0)
   refine leaves_cons (f:=58) (args:= #[.pointer (some ⟨w.heap.size,0,none⟩)]) (by simp) (by simp[go_sem]) ?_
   have hx2:=hx1.set_ 0 (.int .i64 0)
   have d2:=hx2.cell 0
   refine(catch_idle ⟨w.heap.size,0,none⟩ _).mono ?_
   rintro e u' w'' ⟨rfl,rfl,rfl⟩
   simp[Leaves,settle,results,Tryz.results30,go_sem,d2]
   exact(code_box hb1).setCell (Nat.le_refl _) _
 · rw[endE_some h0]at hD
   have HD:=Lib.hid hD
   have Hx:=Lib.hid hx
   clear hD hx
   clear hdo
   go_enter_defers Tryz.func30,Tryz.ntmps30
   go_wp2_with (go_at_call 31;(with_reducible refine(HD.out).mono ?_);rintro e w1 ⟨rfl,hb1⟩;have hx1:=Hx.out.below hb1 hlt;have d0:=hx1.cell 0;have f0:=hx1.frozen 0)
   refine leaves_cons (f:=58) (args:= #[.pointer (some ⟨w.heap.size,0,none⟩)]) (by simp) (by simp[go_sem]) ?_
   have hx2:=(hx1.alloc (.cells #[.int .i64 c] 85)).set_ 0 (.int .i64 c)
   have d2:=hx2.cell 0
   refine(catch_some ⟨w.heap.size,0,none⟩ c 0 w1 (by simpa using d0) f0 hx1.lt).mono ?_
   rintro e u' w'' ⟨rfl,rfl,rfl⟩
   simp[Leaves,settle,results,Tryz.results30,go_sem,d2]
   exact((code_box hb1).alloc (code_box hb1).size _).setCell (Nat.le_refl _) _
end Go.Proofs.YtkkbplakgldlpaaGreatDoor

namespace Go.Proofs.YtkkbplakgldlpaaGreatDoor
open Go Go.RowKit
set_option maxRecDepth 100000 in
set_option maxHeartbeats 4000000 in
theorem caughtO_calls (c:Int) (M:Nat) (q1 q2:Addr) (w:World) (X:World→Prop) (hM:M<w.heap.size) (hX: ∀W W',W.grownBy W' (some w.heap.size)→X W→X W')
 (hdo: ∀W,Below w.heap.size w W→w.heap.size+1≤W.heap.size→Calls Tryz.prog 49 #[.pointer (some q1),.pointer (some q2)] W fun e w'=>e=endE c∧W.grownBy w' (some M)∧X w'):
 Calls Tryz.prog 30 #[.func (.func 49) #[] #[.pointer (some q1),.pointer (some q2)]] w fun e w'=>e=.returned (.int .i64 c)∧w.grownBy w' (some M)∧X w':=by
 have hmf: ∀(fn:Fn) (first cap:Array Value) (w:World),(Instr.makeFunc fn first cap).run Tryz.prog w=.ok (.func fn first cap) w:=fun _ _ _ _=>rfl
 have hx:=Blk.new w 31 #[.int .i64 0]
 have hD:=hdo _ (alloc_below w (.cells #[.int .i64 0] 31)) (by simp)
 have hg0:w.grownBy (w.alloc (.cells #[.int .i64 0] 31)) (some M):=grownBy_alloc (World.grownBy.refl _ _) _
 have hlt:=hx.lt
 have hne:some w.heap.size≠some M:=by simp;omega
 by_cases h0:c=0
 · subst h0
   rw[endE_zero]at hD
   have HD:=Lib.hid hD
   have Hx:=Lib.hid hx
   have Hg0:=Lib.hid hg0
   have HX:=Lib.hid hX
   have Hne:=Lib.hid hne
   clear hD hx hg0 hX hne
   clear hdo
   go_enter_defers Tryz.func30,Tryz.ntmps30
   go_wp2_with (go_at_call 49;(with_reducible refine(HD.out).mono ?_);rintro e w1 ⟨rfl,hg1,hX1⟩;have hx1:=Hx.out.grown hg1 Hne.out;have d0:=hx1.cell 0;have f0:=hx1.frozen 0)
   refine leaves_cons (f:=58) (args:= #[.pointer (some ⟨w.heap.size,0,none⟩)]) (by simp) (by simp[go_sem]) ?_
   have hx2:=hx1.set_ 0 (.int .i64 0)
   have d2:=hx2.cell 0
   refine(catch_idle ⟨w.heap.size,0,none⟩ _).mono ?_
   rintro e u' w'' ⟨rfl,rfl,rfl⟩
   simp[Leaves,settle,results,Tryz.results30,go_sem,d2]
   exact⟨grownBy_set (grownBy_trans Hg0.out hg1) _ (.inr (Nat.le_refl _)) _,HX.out _ _ (grownBy_set (World.grownBy.refl _ _) _ (.inl rfl) _) hX1⟩
 · rw[endE_some h0]at hD
   have HD:=Lib.hid hD
   have Hx:=Lib.hid hx
   have Hg0:=Lib.hid hg0
   have HX:=Lib.hid hX
   have Hne:=Lib.hid hne
   clear hD hx hg0 hX hne
   clear hdo
   go_enter_defers Tryz.func30,Tryz.ntmps30
   go_wp2_with (go_at_call 49;(with_reducible refine(HD.out).mono ?_);rintro e w1 ⟨rfl,hg1,hX1⟩;have hx1:=Hx.out.grown hg1 Hne.out;have d0:=hx1.cell 0;have f0:=hx1.frozen 0)
   refine leaves_cons (f:=58) (args:= #[.pointer (some ⟨w.heap.size,0,none⟩)]) (by simp) (by simp[go_sem]) ?_
   have hx2:=(hx1.alloc (.cells #[.int .i64 c] 85)).set_ 0 (.int .i64 c)
   have d2:=hx2.cell 0
   refine(catch_some ⟨w.heap.size,0,none⟩ c 0 w1 (by simpa using d0) f0 hx1.lt).mono ?_
   rintro e u' w'' ⟨rfl,rfl,rfl⟩
   simp[Leaves,settle,results,Tryz.results30,go_sem,d2]
   exact⟨grownBy_set (grownBy_alloc (grownBy_trans Hg0.out hg1) _) _ (.inr (Nat.le_refl _)) _,HX.out _ _ (grownBy_set (grownBy_alloc (World.grownBy.refl _ _) _) _ (.inl rfl) _) hX1⟩
end Go.Proofs.YtkkbplakgldlpaaGreatDoor

namespace Go.Proofs.YtkkbplakgldlpaaGreatDoor
def mutParse (s:List UInt8):Int×Mut:=match parseL s with
 | .bad c _=>(c,noM)
 | .ok v _=>mutOf v
theorem kn11_f0:mutParse [123,34,97,114,103,115,34,58,123,125,44,34,110,97,109,101,34,58,34,100,101,108,34,125]=(10,noM):=by kernel_rfl
theorem kn11_f1:mutParse [123,34,97,114,103,115,34,58,123,34,107,101,121,34,58,49,125,44,34,110,97,109,101,34,58,34,100,101,108,34,125]=(9,noM):=by kernel_rfl
theorem kn11_f2:mutParse [123,34,97,114,103,115,34,58,123,34,107,101,121,34,58,34,34,125,44,34,110,97,109,101,34,58,34,100,101,108,34,125]=(8,noM):=by kernel_rfl
theorem kn11_f3:mutParse [123,34,97,114,103,115,34,58,49,44,34,110,97,109,101,34,58,34,120,34,125]=(12,noM):=by kernel_rfl
def kn11M0:Mut:=.mk 3 ⟨#[110]⟩ nil0 2 false noV false noV []
theorem kn11_may0:mutMay kn11M0=0:=by decide+kernel
theorem kn11_t0:textV (mutV kn11M0)= [123,34,97,114,103,115,34,58,123,34,98,121,34,58,50,44,34,107,101,121,34,58,34,110,34,125,44,34,110,97,109,101,34,58,34,105,110,99,34,125]:=by kernel_rfl
def kn11M1:Mut:=.mk 4 ⟨#[107]⟩ nil0 0 false noV true (iv 1) []
theorem kn11_may1:mutMay kn11M1=0:=by decide+kernel
theorem kn11_t1:textV (mutV kn11M1)= [123,34,97,114,103,115,34,58,123,34,105,115,34,58,49,44,34,107,101,121,34,58,34,107,34,125,44,34,110,97,109,101,34,58,34,99,97,115,34,125]:=by kernel_rfl
end Go.Proofs.YtkkbplakgldlpaaGreatDoor

namespace Go.Proofs.YtkkbplakgldlpaaGreatDoor
open Go Go.RowKit
set_option maxRecDepth 100000 in
set_option maxHeartbeats 4000000 in
theorem meq_diff (k k':Int) (key key' dst dst':ByteArray) (n n':Int) (had had' has has':Bool) (u0 u1 u2 u3 u4 u5 v0 v1 v2 v3 v4 v5 u0' u1' u2' u3' u4' u5' v0' v1' v2' v3' v4' v5':Value) (a a':Option Addr) (ln c ln' c':Nat) (w:World) (p:Prop) (hp: ¬p)
 (h:k≠k'∨key≠key'∨dst≠dst'∨n≠n'∨had≠had'∨has≠has'∨ln≠ln'):
 Calls Tryz.prog 23 #[.agg #[.int .i64 k,.string key,.string dst,.int .i64 n,.bool had,u0,u1,u2,u3,u4,u5,.bool has,v0,v1,v2,v3,v4,v5,.slice a ln c],.agg #[.int .i64 k',.string key',.string dst',.int .i64 n',.bool had',u0',u1',u2',u3',u4',u5',.bool has',v0',v1',v2',v3',v4',v5',.slice a' ln' c']] w (EqPost p w):=by
 by_cases h1:k=k'
 rotate_left
 · have e:(k != k')=true:=by simpa using h1
   clear h h1
   go_enter Tryz.func23,Tryz.ntmps23
   go_wp2
   go_ret
   exact EqPost.no hp (two_boxes _ _ _)
 subst h1
 by_cases h1:key=key'
 rotate_left
 · have e:(key.toList != key'.toList)=true:=by simp only[bne_iff_ne];exact fun e=>h1 (by rw[Lib.toList_data,Lib.toList_data]at e;exact ByteArray.ext (Array.ext' e))
   have e2:(key.toList==key'.toList)=false:=by simpa using e
   have e3: ¬key.toList=key'.toList:=by simpa using e
   clear h h1
   go_enter Tryz.func23,Tryz.ntmps23
   go_wp2
   go_ret
   exact EqPost.no hp (two_boxes _ _ _)
 subst h1
 by_cases h1:dst=dst'
 rotate_left
 · have e:(dst.toList != dst'.toList)=true:=by simp only[bne_iff_ne];exact fun e=>h1 (by rw[Lib.toList_data,Lib.toList_data]at e;exact ByteArray.ext (Array.ext' e))
   have e2:(dst.toList==dst'.toList)=false:=by simpa using e
   have e3: ¬dst.toList=dst'.toList:=by simpa using e
   clear h h1
   go_enter Tryz.func23,Tryz.ntmps23
   go_wp2
   go_ret
   exact EqPost.no hp (two_boxes _ _ _)
 subst h1
 by_cases h1:n=n'
 rotate_left
 · have e:(n != n')=true:=by simpa using h1
   clear h h1
   go_enter Tryz.func23,Tryz.ntmps23
   go_wp2
   go_ret
   exact EqPost.no hp (two_boxes _ _ _)
 subst h1
 by_cases h1:had=had'
 rotate_left
 · clear h
   cases had<;>cases had'<;>first|exact absurd rfl h1|(clear h1;go_enter Tryz.func23,Tryz.ntmps23;go_wp2;go_ret;exact EqPost.no hp (two_boxes _ _ _))
 subst h1
 by_cases h1:has=has'
 rotate_left
 · clear h
   cases has<;>cases has'<;>first|exact absurd rfl h1|(clear h1;go_enter Tryz.func23,Tryz.ntmps23;go_wp2;go_ret;exact EqPost.no hp (two_boxes _ _ _))
 subst h1
 by_cases h1:ln=ln'
 rotate_left
 · have e:((ln:Int) != (ln':Int))=true:=by simp;omega
   clear h h1
   go_enter Tryz.func23,Tryz.ntmps23
   go_wp2
   go_ret
   exact EqPost.no hp (two_boxes _ _ _)
 subst h1
 simp at h
end Go.Proofs.YtkkbplakgldlpaaGreatDoor

namespace Go.Proofs.YtkkbplakgldlpaaGreatDoor
open Go.RowKit Go.ChangeShapes Go.WideShapes Go.ChangeAt
theorem own_knob:ownKnob Tryz.prog.godebug=none:=by kernel_rfl
noncomputable def laidWorld (os:Os):World:=World.laidAll Tryz.prog os Rows.mutatorMayRow.laid
theorem laid_first:Rows.laid_unicode_utf8_first=Lib.firstData:=by kernel_rfl
theorem laid_accept:Rows.laid_unicode_utf8_acceptRanges (H:=Unit)=Lib.acceptData:=by kernel_rfl
theorem laid_pow10:Rows.laid_internal_strconv_uint64pow10 (H:=Unit)=Lib.tabData .u64 Lib.pow10Tab:=by kernel_rfl
theorem laid_met (os:Os) (args:Array Value):laidMet Tryz.prog Rows.mutatorMayRow.laid ((laidWorld os).forCall (fun _ _=>0) ⟨#[],args, []⟩).memory:=
 laidMet_laidAll _ (by kernel_rfl) (by kernel_rfl)
end Go.Proofs.YtkkbplakgldlpaaGreatDoor

namespace Go.Proofs.YtkkbplakgldlpaaGreatDoor
open Go.RowKit Go.ChangeShapes Go.WideShapes Go.ChangeAt
theorem tab_pow10 {W:World} (h:Lib.VarReads Tryz.prog W "internal/strconv.uint64pow10" (Lib.tabData .u64 Lib.pow10Tab)):Lib.TabIs Tryz.prog W "internal/strconv.uint64pow10" .u64 Lib.pow10Tab:=by
 obtain⟨g',t',cs,fuel,p,hg',ht',hvar,hd⟩:=h
 have hg:Tryz.prog.globalNamed "internal/strconv.uint64pow10" =some 4:=by kernel_rfl
 have hty:(Tryz.prog.globals[4]?).map (·.type)=some 236:=by kernel_rfl
 obtain rfl:=Option.some.inj (hg.symm.trans hg')
 obtain rfl:=Option.some.inj (hty.symm.trans ht')
 unfold Lib.TabIs
 rw[hvar,←Lib.cells_of_tab Tryz.underlying236 Tryz.underlying177 (by kernel_rfl) (by kernel_rfl) hd]
theorem mnames_of {W:World} (h:Lib.VarReads Tryz.prog W "commonplace/mutator.names" Rows.laid_commonplace_mutator_names):MNames W:=by
 obtain⟨g',t',cs,fuel,p,hg',ht',hvar,hd⟩:=h
 have hg:Tryz.prog.globalNamed "commonplace/mutator.names" =some 0:=by kernel_rfl
 have hty:(Tryz.prog.globals[0]?).map (·.type)=some 88:=by kernel_rfl
 obtain rfl:=Option.some.inj (hg.symm.trans hg')
 obtain rfl:=Option.some.inj (hty.symm.trans ht')
 obtain⟨xs,m,_,hx,hl,hxl,hf⟩:=DataW.trod_array Tryz.underlying88 hd
 have hc1:Tryz.prog.cellsOf 9=1:=by kernel_rfl
 have hc4:Tryz.prog.cellsOf 88=8:=by kernel_rfl
 rw[hc4]at hl
 have hxs:=congrArg Prod.fst hx
 simp only[Rows.laid_commonplace_mutator_names,DataW.agg.injEq]at hxs
 have key: ∀i,i<8→ ∀l:List UInt8,([[], [112,117,116], [100,101,108], [105,110,99], [99,97,115], [97,112,112,101,110,100], [109,111,118,101], [115,101,113]]:List (List UInt8))[i]? =some l→cs[i]? =some (.string ⟨l.toArray⟩):=by
  intro i hi l hl'
  have h1:=hf i hi
  rw[hc1,Nat.mul_one]at h1
  have h2:((cs.toList.drop i).take 1)= [cs[i]'(by simpa[Array.length_toList]using(by omega:i<cs.toList.length))]:=by
   rw[List.drop_eq_getElem_cons (by omega)]
   simp
  rw[h2,List.getElem?_eq_getElem (by omega)]at h1
  obtain⟨s,hs,hx1,_⟩:=DataW.trod_string Tryz.underlying9 h1
  simp only[List.cons.injEq,and_true]at hs
  have h3:(xs.map (·.1))[i]? =some (DataW.lit (.string s.data.toList):DataW Unit):=by
   rw[List.getElem?_map,List.getElem?_eq_getElem (by omega),Option.map_some,hx1]
  rw[←hxs]at h3
  have h4:s.data.toList=l:=by
   rcases(by omega:i=0∨i=1∨i=2∨i=3∨i=4∨i=5∨i=6∨i=7)with rfl|rfl|rfl|rfl|rfl|rfl|rfl|rfl<;>exact(Lit.string.inj (DataW.lit.inj (Option.some.inj h3))).symm.trans (Option.some.inj hl')
  have h5:i<cs.size:=by rw[←Array.length_toList];omega
  rw[Array.getElem?_eq_getElem h5,hs]
  have h6:s=⟨l.toArray⟩:=by
   apply ByteArray.ext
   apply Array.ext'
   rw[h4]
  rw[h6]
 unfold World.var? at hvar
 rw[hg]at hvar
 simp only[Option.bind_some]at hvar
 split at hvar
 · rename_i cs' t' fz hh
   simp only[Option.some.injEq]at hvar
   subst hvar
   have hcell: ∀i,W.cell? ⟨0,i,none⟩=cs'[i]? :=fun i=>by unfold World.cell?;rw[hh];rfl
   exact⟨(hcell 1).trans (key 1 (by omega) _ rfl),(hcell 2).trans (key 2 (by omega) _ rfl),(hcell 3).trans (key 3 (by omega) _ rfl),(hcell 4).trans (key 4 (by omega) _ rfl),(hcell 5).trans (key 5 (by omega) _ rfl),(hcell 6).trans (key 6 (by omega) _ rfl),(hcell 7).trans (key 7 (by omega) _ rfl),(Array.getElem?_eq_some_iff.1 hh).1⟩
 · cases hvar
theorem tabs_of {W:World} (h:laidMetH Tryz.prog Rows.mutatorMayRow.laid W):Tabs W:=by
 have hL:laidMet Tryz.prog Rows.mutatorMayRow.laid W:=by
  have:=(laidMetH_iff.1 h).1
  have e:(Rows.mutatorMayRow.laid.filter fun x=>x.2.handleName?.isNone)=Rows.mutatorMayRow.laid:=by kernel_rfl
  rwa [e]at this
 have hu:Lib.Utf8Tabs 1 2 W:=
  utf8Tabs_of_readsT (U8Types.of196 Tryz.lays196) ⟨by kernel_rfl,by kernel_rfl,by kernel_rfl,by kernel_rfl,by kernel_rfl,by kernel_rfl,by kernel_rfl⟩
   (Lib.laidMet.reads hL (n:= "unicode/utf8.first") (d:=Lib.firstData) (by rw[←laid_first];simp[Rows.mutatorMayRow])) (Lib.laidMet.reads hL (n:= "unicode/utf8.acceptRanges") (d:=Lib.acceptData) (by rw[←laid_accept];simp[Rows.mutatorMayRow]))
 have hp:=tab_pow10 (Lib.laidMet.reads hL (n:= "internal/strconv.uint64pow10") (d:=Lib.tabData .u64 Lib.pow10Tab) (by rw[←laid_pow10];simp[Rows.mutatorMayRow]))
 have h64:Lib.VarReads Tryz.prog W "math/bits.deBruijn64tab" Rows.laid_math_bits_deBruijn64tab:=Lib.laidMet.reads hL (by simp[Rows.mutatorMayRow])
 refine⟨?_,hu,hp⟩
 obtain⟨g',t',cs,fuel,p,hg',ht',hvar,hd⟩:=h64
 have hg:Tryz.prog.globalNamed "math/bits.deBruijn64tab" =some 8:=by kernel_rfl
 obtain rfl:=Option.some.inj (hg.symm.trans hg')
 unfold World.var? at hvar
 rw[hg]at hvar
 simp only[Option.bind_some]at hvar
 rcases Nat.lt_or_ge 8 W.heap.size with h'|h'
 · omega
 · rw[Array.getElem?_eq_none h']at hvar
   cases hvar
theorem mnames_laid {W:World} (h:laidMetH Tryz.prog Rows.mutatorMayRow.laid W):MNames W:=by
 have hL:laidMet Tryz.prog Rows.mutatorMayRow.laid W:=by
  have:=(laidMetH_iff.1 h).1
  have e:(Rows.mutatorMayRow.laid.filter fun x=>x.2.handleName?.isNone)=Rows.mutatorMayRow.laid:=by kernel_rfl
  rwa [e]at this
 exact mnames_of (Lib.laidMet.reads hL (by simp[Rows.mutatorMayRow]))
end Go.Proofs.YtkkbplakgldlpaaGreatDoor

namespace Go.Proofs.YtkkbplakgldlpaaGreatDoor
open Go.RowKit Go.ChangeShapes Go.WideShapes Go.ChangeAt
theorem i64_in {n:Int} (hwf:(Lit.int .i64 n).wf=true): -9223372036854775808≤n∧n≤9223372036854775807:=by
 have h1:IntKind.i64.min= -9223372036854775808:=by decide
 have h2:IntKind.i64.max=9223372036854775807:=by decide
 simp only[Lit.wf,h1,h2,Bool.and_eq_true,decide_eq_true_eq]at hwf
 exact hwf
section
variable {H:Type} {enc:TypeId×Value→H} {P:Program}
theorem post_of_below {f:Func} {s:ChangeSpec} {apart fresh handsOn again:Bool} {W W':World} {args:Array Value} {v:Value} {ds gs:List (DataW H)} {before pa pv:List MemPlace}
 (hW:DataW.Whole enc P f.params.toList s.vars apart W args.toList ds gs before)
 (hres: ∀(b:Nat) (sp:Nat→Bool) (hd:Bool),DataW.TrodAll enc P W' b sp hd f.resultTypes.toList (v.resultList f.resultTypes.size) (s.fn H (ds++gs)).results [])
 (hargs: ∀sp:Nat→Bool,(∀p ∈ before,sp p.block=true)→DataW.TrodAll enc P W' 0 sp true f.params.toList args.toList (s.fn H (ds++gs)).args pa)
 (hvars: ∀sp:Nat→Bool,(∀p ∈ before,sp p.block=true)→DataW.TrodVars enc P W' sp s.vars (s.fn H (ds++gs)).vars pv)
 (hps:before=pa++pv) (hb:Below W.heap.size W W')
 (hok: ∀(j:Nat) (t:TypeId) (r:Value),f.resultTypes[j]? =some t→(v.resultList f.resultTypes.size)[j]? =some r→Value.okWide P W' .any 0 t r):
 s.post enc P f apart fresh handsOn again W args v W':=by
 have hlt: ∀p ∈ before,p.block<W.heap.size:=fun p hp=>hW.lt p hp
 have hold: ∀p ∈ before,(fun b=>decide (b<W.heap.size)) p.block=true:=fun p hp=>by simpa using hlt p hp
 refine⟨ds,gs,before, [],pa,pv,hW,hres _ _ _,hargs _ hold,hvars _ hold,World.keptBut_mono (fun p hp=>⟨hp, ?_⟩) (hb.frame (· ∈ before)),fun _=> ?_⟩
 · rw[hps,List.mem_append]at hp
   exact Or.inr hp
 · obtain⟨_,_,_,_,_,hz,hn⟩:=hW
   refine⟨hok,_,_,([]++pa)++pv,⟨[]++pa,pv,trodAll_append (hargs _ (fun _ _=>rfl)) (hres _ _ _),hvars _ (fun _ _=>rfl),rfl, ?_, ?_⟩, ?_⟩
   · intro b off hp
     have hin:MemPlace.cell b off ∈ before:=by rw[hps];simpa using hp
     rw[hb.frozen (hlt _ hin)]
     exact hz b off hin
   · intro ha
     have:=hn ha
     rw[hps]at this
     simpa using this
   · intro p hp _
     rw[hps]
     simpa using hp
end
end Go.Proofs.YtkkbplakgldlpaaGreatDoor

namespace Go.Proofs.YtkkbplakgldlpaaGreatDoor
open Go.RowKit Go.ChangeShapes Go.WideShapes Go.ChangeAt
theorem trod_iface {H:Type} {enc:TypeId×Value→H} {P:Program} {w:World} {base fuel:Nat} {sp:Nat→Bool} {t:TypeId} {ms:Array (String×TypeId)} {cs:List Value} {name:String} {d:DataW H} {p:List MemPlace} (ht:P.underlying t=some (.interface ms))
 (h:DataW.trod enc P w base sp false fuel t cs=some (.iface name d,p)): ∃u v,cs= [.iface u v]:=by
 cases fuel with
 |zero=>simp[DataW.trod]at h
 |succ n=>
  unfold DataW.trod at h
  rw[ht]at h
  split at h<;>first|exact⟨_,_,rfl⟩|simp_all
theorem numT_of {W:World} (h:Lib.VarReads Tryz.prog W "strconv.ErrRange" Rows.laid_strconv_ErrRange):NumT W:=by
 obtain⟨g',t',cs,fuel,p,hg',ht',hvar,hd⟩:=h
 have hg:Tryz.prog.globalNamed "strconv.ErrRange" =some 6:=by kernel_rfl
 have hty:(Tryz.prog.globals[6]?).map (·.type)=some 185:=by kernel_rfl
 obtain rfl:=Option.some.inj (hg.symm.trans hg')
 obtain rfl:=Option.some.inj (hty.symm.trans ht')
 unfold World.var? at hvar
 rw[hg]at hvar
 simp only[Option.bind_some]at hvar
 split at hvar
 · rename_i cs' t' fz hh
   simp only[Option.some.injEq]at hvar
   subst hvar
   obtain⟨u,v,e⟩:=trod_iface Tryz.underlying185 hd
   obtain⟨l⟩:=cs'
   simp only at e
   subst e
   refine⟨u,v, ?_⟩
   unfold World.cell?
   rw[hh]
   rfl
 · cases hvar
theorem num_laid {W:World} (h:laidMetH Tryz.prog Rows.mutatorMayRow.laid W):NumT W:=by
 have hL:laidMet Tryz.prog Rows.mutatorMayRow.laid W:=by
  have:=(laidMetH_iff.1 h).1
  have e:(Rows.mutatorMayRow.laid.filter fun x=>x.2.handleName?.isNone)=Rows.mutatorMayRow.laid:=by kernel_rfl
  rwa [e]at this
 exact numT_of (Lib.laidMet.reads hL (n:= "strconv.ErrRange") (by simp[Rows.mutatorMayRow]))
end Go.Proofs.YtkkbplakgldlpaaGreatDoor
