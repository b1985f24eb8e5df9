/- Parts: Maps cell by cell, whatever their elements: an entry stored, an entry looked up. Plain. No condition. -/
import Derived.Test.YtkmcjfkokoidcaaGreatDoorProg
import Derived.Deep.RegionHeld3
import Derived.WalkKit
import Derived.Lib.Hide
import Derived.BigQuiet
import Derived.Deep.QuietTactic
import Derived.WalkLawsBesides
import Derived.WalkSpells
import Derived.Lib.Strings
import Derived.RangeFuncNested
import Derived.RangeFuncBound
import Derived.RangeFuncCalls
import Derived.RangeFuncLeaves
import Derived.OwnWalkIn
import Derived.TacticsInMore
import Derived.Below
import Derived.Maps.OwnSet
import Derived.Laws.OwnMore
set_option maxHeartbeats 20000000
namespace Go.Proofs.YtkmcjfkokoidcaaGreatDoor
open Go Go.RowKit
section
variable {P:Program} {md:Region.Mode} {ops:Array Oper} {Q:Exit->Act->World->Prop} {S:World->Prop}
theorem tkH (i:Nat) {oi:Oper} {v:Value} {fuel:Nat} {listed:Array Bool} {a a':Act} {w:World} (hS:S w) (h:wpAnyH P md ops Q S fuel (listed.setIfInBounds i true) a' w)
 (hi:ops[i]? =some oi:=by rfl) (hs:Region.noSelect ops=true:=by kernel_rfl) (hf:Region.free md ops listed i=true:=by kernel_rfl) (hr:(Region.ready md ops listed).contains i=true:=by kernel_rfl)
 (hQ: ∀c a w,Q (.panic c) (a.put oi.dst v) w->Q (.panic c) a w:=by exact fun _ _ _ h=>h) (hw:Region.wanted oi (yielded ops a.tmps)=true:=by kernel_rfl)
 (hy: ∀w,S w->(execOp a.eval oi).run P w=.ok (.value v) w:=by(intro X hSw;(repeat (obtain⟨_,hSw⟩:=hSw));first|(go_simp;done)|(go_simp;with_reducible rfl)))
 (hn:a.put oi.dst v=a':=by((try simp only[Act.put,List.getElem_toArray,List.getElem_cons_succ,List.getElem_cons_zero,List.setIfInBounds_toArray,List.set_cons_zero,List.set_cons_succ]);exact rfl)):wpAnyH P md ops Q S (fuel+1) listed a w:=
 wpAnyH_take hi hs hf hr hQ (Or.inl ⟨hw,hy⟩) hS (hn▸h)
theorem Ee (i:Nat) {o:Oper} {fuel:Nat} {listed:Array Bool} {a:Act} {w:World}
 (h: ∀K':Act->World->Prop,Shut (∀a w,S w->(S w->wpAnyH P md ops Q S fuel (listed.setIfInBounds i true) a w)->K' a w)->if Region.wanted o (yielded ops a.tmps)=true then Oper.wp P o a w K' Q else K' (a.put o.dst undef) w)
 (hr:Region.ready md ops listed= [i]:=by kernel_rfl) (ho:ops[i]? =some o:=by rfl):wpAnyH P md ops Q S (fuel+1) listed a w:=
 wpAnyH_ready hr (by simp) (AllReadyH.cons ho h AllReadyH.nil)
theorem rd2 (i j:Nat) {o o':Oper} {fuel:Nat} {listed:Array Bool} {a:Act} {w:World}
 (h: ∀K':Act->World->Prop,Shut (∀a w,S w->(S w->wpAnyH P md ops Q S fuel (listed.setIfInBounds i true) a w)->K' a w)->if Region.wanted o (yielded ops a.tmps)=true then Oper.wp P o a w K' Q else K' (a.put o.dst undef) w)
 (h': ∀K':Act->World->Prop,Shut (∀a w,S w->(S w->wpAnyH P md ops Q S fuel (listed.setIfInBounds j true) a w)->K' a w)->if Region.wanted o' (yielded ops a.tmps)=true then Oper.wp P o' a w K' Q else K' (a.put o'.dst undef) w)
 (hr:Region.ready md ops listed= [i,j]:=by kernel_rfl) (ho:ops[i]? =some o:=by rfl) (ho':ops[j]? =some o':=by rfl):wpAnyH P md ops Q S (fuel+1) listed a w:=
 wpAnyH_ready hr (by simp) (AllReadyH.cons ho h (AllReadyH.cons ho' h' AllReadyH.nil))
end
theorem tk1 {α:Type} {xs:List α} {i:Nat} (h:i<xs.toArray.size):xs.toArray[i]=xs[i]'(by simpa using h):=List.getElem_toArray h
theorem tk2 {α:Type} (a:α) (l:List α) (i:Nat) (h:i+1<(a::l).length):(a::l)[i+1]=l[i]'(by simpa using h):=List.getElem_cons_succ a l i h
theorem tk3 {α:Type} (a:α) (l:List α) (h:0<(a::l).length):(a::l)[0]=a:=List.getElem_cons_zero a l h
theorem tk4 {α:Type} (l:List α) (i:Nat) (a:α):l.toArray.setIfInBounds i a=(l.set i a).toArray:=List.setIfInBounds_toArray l i a
theorem tk5 {α:Type} {x:α} {xs:List α} {a:α}:(x::xs).set 0 a=a::xs:=rfl
theorem tk6 {α:Type} {x:α} {xs:List α} {i:Nat} {a:α}:(x::xs).set (i+1) a=x::xs.set i a:=rfl
theorem qz {p:Prop} (h:p):Hid p:=Lib.hid h
theorem hid2 {p0 p1:Prop} (x0:p0) (x1:p1):Hid p0/\Hid p1:=⟨Lib.hid x0,Lib.hid x1⟩
theorem hid3 {p0 p1 p2:Prop} (x0:p0) (x1:p1) (x2:p2):Hid p0/\Hid p1/\Hid p2:=⟨Lib.hid x0,Lib.hid x1,Lib.hid x2⟩
theorem hid4 {p0 p1 p2 p3:Prop} (x0:p0) (x1:p1) (x2:p2) (x3:p3):Hid p0/\Hid p1/\Hid p2/\Hid p3:=⟨Lib.hid x0,Lib.hid x1,Lib.hid x2,Lib.hid x3⟩
theorem hid5 {p0 p1 p2 p3 p4:Prop} (x0:p0) (x1:p1) (x2:p2) (x3:p3) (x4:p4):Hid p0/\Hid p1/\Hid p2/\Hid p3/\Hid p4:=⟨Lib.hid x0,Lib.hid x1,Lib.hid x2,Lib.hid x3,Lib.hid x4⟩
theorem hid6 {p0 p1 p2 p3 p4 p5:Prop} (x0:p0) (x1:p1) (x2:p2) (x3:p3) (x4:p4) (x5:p5):Hid p0/\Hid p1/\Hid p2/\Hid p3/\Hid p4/\Hid p5:=⟨Lib.hid x0,Lib.hid x1,Lib.hid x2,Lib.hid x3,Lib.hid x4,Lib.hid x5⟩
theorem hid7 {p0 p1 p2 p3 p4 p5 p6:Prop} (x0:p0) (x1:p1) (x2:p2) (x3:p3) (x4:p4) (x5:p5) (x6:p6):Hid p0/\Hid p1/\Hid p2/\Hid p3/\Hid p4/\Hid p5/\Hid p6:=⟨Lib.hid x0,Lib.hid x1,Lib.hid x2,Lib.hid x3,Lib.hid x4,Lib.hid x5,Lib.hid x6⟩
theorem hid8 {p0 p1 p2 p3 p4 p5 p6 p7:Prop} (x0:p0) (x1:p1) (x2:p2) (x3:p3) (x4:p4) (x5:p5) (x6:p6) (x7:p7):Hid p0/\Hid p1/\Hid p2/\Hid p3/\Hid p4/\Hid p5/\Hid p6/\Hid p7:=⟨Lib.hid x0,Lib.hid x1,Lib.hid x2,Lib.hid x3,Lib.hid x4,Lib.hid x5,Lib.hid x6,Lib.hid x7⟩
theorem hid9 {p0 p1 p2 p3 p4 p5 p6 p7 p8:Prop} (x0:p0) (x1:p1) (x2:p2) (x3:p3) (x4:p4) (x5:p5) (x6:p6) (x7:p7) (x8:p8):Hid p0/\Hid p1/\Hid p2/\Hid p3/\Hid p4/\Hid p5/\Hid p6/\Hid p7/\Hid p8:=⟨Lib.hid x0,Lib.hid x1,Lib.hid x2,Lib.hid x3,Lib.hid x4,Lib.hid x5,Lib.hid x6,Lib.hid x7,Lib.hid x8⟩
theorem hid10 {p0 p1 p2 p3 p4 p5 p6 p7 p8 p9:Prop} (x0:p0) (x1:p1) (x2:p2) (x3:p3) (x4:p4) (x5:p5) (x6:p6) (x7:p7) (x8:p8) (x9:p9):Hid p0/\Hid p1/\Hid p2/\Hid p3/\Hid p4/\Hid p5/\Hid p6/\Hid p7/\Hid p8/\Hid p9:=⟨Lib.hid x0,Lib.hid x1,Lib.hid x2,Lib.hid x3,Lib.hid x4,Lib.hid x5,Lib.hid x6,Lib.hid x7,Lib.hid x8,Lib.hid x9⟩
theorem hid11 {p0 p1 p2 p3 p4 p5 p6 p7 p8 p9 p10:Prop} (x0:p0) (x1:p1) (x2:p2) (x3:p3) (x4:p4) (x5:p5) (x6:p6) (x7:p7) (x8:p8) (x9:p9) (x10:p10):Hid p0/\Hid p1/\Hid p2/\Hid p3/\Hid p4/\Hid p5/\Hid p6/\Hid p7/\Hid p8/\Hid p9/\Hid p10:=⟨Lib.hid x0,Lib.hid x1,Lib.hid x2,Lib.hid x3,Lib.hid x4,Lib.hid x5,Lib.hid x6,Lib.hid x7,Lib.hid x8,Lib.hid x9,Lib.hid x10⟩
theorem hid12 {p0 p1 p2 p3 p4 p5 p6 p7 p8 p9 p10 p11:Prop} (x0:p0) (x1:p1) (x2:p2) (x3:p3) (x4:p4) (x5:p5) (x6:p6) (x7:p7) (x8:p8) (x9:p9) (x10:p10) (x11:p11):Hid p0/\Hid p1/\Hid p2/\Hid p3/\Hid p4/\Hid p5/\Hid p6/\Hid p7/\Hid p8/\Hid p9/\Hid p10/\Hid p11:=⟨Lib.hid x0,Lib.hid x1,Lib.hid x2,Lib.hid x3,Lib.hid x4,Lib.hid x5,Lib.hid x6,Lib.hid x7,Lib.hid x8,Lib.hid x9,Lib.hid x10,Lib.hid x11⟩
theorem hid13 {p0 p1 p2 p3 p4 p5 p6 p7 p8 p9 p10 p11 p12:Prop} (x0:p0) (x1:p1) (x2:p2) (x3:p3) (x4:p4) (x5:p5) (x6:p6) (x7:p7) (x8:p8) (x9:p9) (x10:p10) (x11:p11) (x12:p12):Hid p0/\Hid p1/\Hid p2/\Hid p3/\Hid p4/\Hid p5/\Hid p6/\Hid p7/\Hid p8/\Hid p9/\Hid p10/\Hid p11/\Hid p12:=⟨Lib.hid x0,Lib.hid x1,Lib.hid x2,Lib.hid x3,Lib.hid x4,Lib.hid x5,Lib.hid x6,Lib.hid x7,Lib.hid x8,Lib.hid x9,Lib.hid x10,Lib.hid x11,Lib.hid x12⟩
theorem hid14 {p0 p1 p2 p3 p4 p5 p6 p7 p8 p9 p10 p11 p12 p13:Prop} (x0:p0) (x1:p1) (x2:p2) (x3:p3) (x4:p4) (x5:p5) (x6:p6) (x7:p7) (x8:p8) (x9:p9) (x10:p10) (x11:p11) (x12:p12) (x13:p13):Hid p0/\Hid p1/\Hid p2/\Hid p3/\Hid p4/\Hid p5/\Hid p6/\Hid p7/\Hid p8/\Hid p9/\Hid p10/\Hid p11/\Hid p12/\Hid p13:=⟨Lib.hid x0,Lib.hid x1,Lib.hid x2,Lib.hid x3,Lib.hid x4,Lib.hid x5,Lib.hid x6,Lib.hid x7,Lib.hid x8,Lib.hid x9,Lib.hid x10,Lib.hid x11,Lib.hid x12,Lib.hid x13⟩
theorem hid15 {p0 p1 p2 p3 p4 p5 p6 p7 p8 p9 p10 p11 p12 p13 p14:Prop} (x0:p0) (x1:p1) (x2:p2) (x3:p3) (x4:p4) (x5:p5) (x6:p6) (x7:p7) (x8:p8) (x9:p9) (x10:p10) (x11:p11) (x12:p12) (x13:p13) (x14:p14):Hid p0/\Hid p1/\Hid p2/\Hid p3/\Hid p4/\Hid p5/\Hid p6/\Hid p7/\Hid p8/\Hid p9/\Hid p10/\Hid p11/\Hid p12/\Hid p13/\Hid p14:=⟨Lib.hid x0,Lib.hid x1,Lib.hid x2,Lib.hid x3,Lib.hid x4,Lib.hid x5,Lib.hid x6,Lib.hid x7,Lib.hid x8,Lib.hid x9,Lib.hid x10,Lib.hid x11,Lib.hid x12,Lib.hid x13,Lib.hid x14⟩
theorem hid16 {p0 p1 p2 p3 p4 p5 p6 p7 p8 p9 p10 p11 p12 p13 p14 p15:Prop} (x0:p0) (x1:p1) (x2:p2) (x3:p3) (x4:p4) (x5:p5) (x6:p6) (x7:p7) (x8:p8) (x9:p9) (x10:p10) (x11:p11) (x12:p12) (x13:p13) (x14:p14) (x15:p15):Hid p0/\Hid p1/\Hid p2/\Hid p3/\Hid p4/\Hid p5/\Hid p6/\Hid p7/\Hid p8/\Hid p9/\Hid p10/\Hid p11/\Hid p12/\Hid p13/\Hid p14/\Hid p15:=⟨Lib.hid x0,Lib.hid x1,Lib.hid x2,Lib.hid x3,Lib.hid x4,Lib.hid x5,Lib.hid x6,Lib.hid x7,Lib.hid x8,Lib.hid x9,Lib.hid x10,Lib.hid x11,Lib.hid x12,Lib.hid x13,Lib.hid x14,Lib.hid x15⟩
def Gl (k:Int) (b:Bool) (n:Int) (t:ByteArray) (ln on:Nat):Bool:=
 if k==1 then b||n != 0|| !t.toList.isEmpty||ln != 0||on != 0
 else if k==2 then n != 0|| !t.toList.isEmpty||ln != 0||on != 0
 else if k==3 then b|| !t.toList.isEmpty||ln != 0||on != 0
 else if k==4 then b||n != 0||ln != 0||on != 0
 else if k==5 then b||n != 0|| !t.toList.isEmpty||on != 0
 else if k==6 then b||n != 0|| !t.toList.isEmpty||ln != 0
 else true
theorem Aic (k:Int) (b:Bool) (n:Int) (t:ByteArray) (la oa:Option Addr) (ln lc on oc:Nat) (w:World):
 Calls Tryz.prog 158 #[.agg #[.int .i64 k,.bool b,.int .i64 n,.string t,.slice la ln lc,.slice oa on oc]] w fun e w'=>e=.returned (.bool (Gl k b n t ln on))/\Below w.heap.size w w':=by
 go_enter Tryz.func158,Tryz.ntmps158;go_wp2
 all_goals go_ret
 all_goals simp only[Gl, *]
 all_goals refine⟨by first|(simp_all;done)|(simp_all;omega)|(simp_all;rw[Bool.eq_iff_iff];simp[Nat.pos_iff_ne_zero]), ?_⟩
 all_goals exact Below.alloc (Below.refl _ _) (Nat.le_refl _) _
theorem Ai0 {t:ByteArray} (h: ¬t=ByteArray.empty):t.toList≠ []:=by
 intro e;rw[Lib.toList_data]at e;apply h;have:t.data= #[]:=by simpa using e
 exact ByteArray.ext this
theorem Ac1 {a b:Bool} (h:a=b):Ending.returned (.bool a)=.returned (.bool b):=by rw[h]
theorem Ajq (n:Nat):((n:Int)==0)=(n==0):=by rw[Bool.eq_iff_iff];simp
theorem Ady (k:Int) (b:Bool) (n:Int) (t:ByteArray) (la oa:Option Addr) (ln lc on oc:Nat) (w:World):
 Calls Tryz.prog 160 #[.agg #[.int .i64 k,.bool b,.int .i64 n,.string t,.slice la ln lc,.slice oa on oc]] w fun e w'=>e=.returned (.bool (!Gl k b n t ln on))/\Below w.heap.size w w':=by
 rcases(by omega:k=1\/k=2\/k=3\/k=4\/k=5\/k=6\/k<1\/6<k)with rfl|rfl|rfl|rfl|rfl|rfl|h|h
 all_goals
  go_enter Tryz.func160,Tryz.ntmps160;go_wp2
  all_goals go_ret
  all_goals refine⟨Ac1 ?_,Below.alloc (Below.refl _ _) (Nat.le_refl _) _⟩
  all_goals simp only[Gl,Ajq]
 all_goals first|(simp_all[Ai0];done)|(subst_vars;simp_all[bne];done)|(rw[if_neg (by simp;omega),if_neg (by simp;omega),if_neg (by simp;omega),if_neg (by simp;omega),if_neg (by simp;omega),if_neg (by simp;omega)];rfl)|skip
def Ajm {α:Type} (P:Program) (gf:Nat) (lb:Array Value) (encs:α->Array Value) (xs:List α) (N:World->Prop):Prop:=
 ∀(n l:Nat) (J:List α->World->Prop) (W:World),(∀s A B,J s A->Below A.heap.size A B->J s B)->(∀s A,J s A->N A)->
  (∀pre x rest A,xs=pre++x::rest->J pre A->YieldAt Fence.wide n P l (encs x) A fun e B=>e=.returned (.bool true)/\J (pre++ [x]) B)->
  J [] W->CallsIn Fence.wide (n+1) P gf (#[.func (.yield l) #[] #[]]++lb) W fun e B=>(∃v,e=.returned v)/\J xs B
def Aem (I:World->Prop) (d:Nat) (W:World):Exit->Act->World->Prop
 | .normal,_,W'=>W'.heap[d]? =W.heap[d]? /\W'.heap[d+1]? =W.heap[d+1]? /\I W'
 |_,_,_=>False
theorem Aai {α:Type} {P:Program} {g:Operand} {ps:Array Tmp} {assign body:Code} {Q:Exit->Act->World->Prop} {a:Act} {w:World} {n:Nat}
 {gf:Nat} {lb:Array Value} (hg:a.eval g=.func (.func gf) #[] lb) (eg: ∀args w,(callFunc gf args).run P w=.ok (.enter gf args) w)
 {encs:α->Array Value} {xs:List α} {N:World->Prop} (hit:Ajm P gf lb encs xs N) (hps: ∀x,(encs x).size=ps.size)
 (I:List α->World->Prop) (hIn: ∀s A B,I s A->Below A.heap.size A B->I s B)
 (hIp: ∀s A k o o',I s A->A.heap[k]? =some o->o.isCells=false->(k=w.heap.size\/k=w.heap.size+1)->I s (A.putObj k o'))
 (hIb: ∀s A,I s A->N A) (h0:I [] w) (a₁:α->Act)
 (hassign: ∀(l:Nat) (x:α) (W:World) (K:Act->World->Prop),K (a₁ x) W->
   assign.wpIn (Fence.wide.inRound l) n P (Exit.then K (fun _ _ _=>False)) {tmps:=(ps.zip (encs x)).foldl (fun t (p,v)=>t.setIfInBounds p v) a.tmps,defers:= []} W)
 (hbody: ∀(l:Nat) (pre:List α) (x:α) (rest:List α) (W:World),xs=pre++x::rest->I pre W->(∃ds,W.heap[w.heap.size]? =some (.deferred ds))->(∃r,W.heap[w.heap.size+1]? =some (.loop r))->
   body.wpIn (Fence.wide.inRound l) n P (Aem (I (pre++ [x])) w.heap.size W) (a₁ x) W)
 (hdone: ∀(W:World),I xs W->W.heap[w.heap.size]? =some (.deferred (some []))->Q .normal {a with defers:={target:=.collected w.heap.size,args:= #[]}::a.defers} W):
 (Code.rangeFunc g ps assign body).wpIn Fence.wide (n+1+1) P Q a w:=by
 refine wpIn_rangeFunc ?_;intro fn hfn;have hro:Fence.wide.round=none:=rfl;rw[hro];obtain⟨rec,hrec⟩: ∃rec:LoopState->Option Code->Loop,rec=fun st pe=>{state:=st,pending:=pe,fn,tmps:=a.tmps,params:=ps,assign,body,defers:=w.heap.size}:=⟨_,rfl⟩;obtain⟨W1,hW1⟩: ∃W1,(w.alloc (.deferred (some []))).alloc (.loop (rec .ready none))=W1:=⟨_,rfl⟩;have hL1:W1.heap[w.heap.size+1]? =some (.loop (rec .ready none)):=by
  rw[<-hW1];have:=World.alloc_heap_new (w.alloc (.deferred (some []))) (.loop (rec .ready none));rwa [World.size_alloc]at this
 have hK1:W1.heap[w.heap.size]? =some (.deferred (some [])):=by
  rw[<-hW1];exact(Below.heap_alloc _ _ _ (by simp)).trans (World.alloc_heap_new w _)
 have hI1:I [] W1:=by
  rw[<-hW1];exact hIn _ _ _ h0 (((Below.refl _ w).alloc (Nat.le_refl _) _).alloc (by simp) _)
 refine⟨w.heap.size+1, [{target:=.collected w.heap.size,args:= #[]}],W1,{target:=.fn (.func gf) lb,args:= #[.func (.yield (w.heap.size+1)) #[] #[]]},W1,gf,
  #[.func (.yield (w.heap.size+1)) #[] #[]]++lb,W1, ?_, ?_, ?_, ?_,fun h=>by simp[Fence.wide]at h, ?_⟩
 . rw[<-hW1,hrec];exact run_enterLoop_outer _ _ _ _ _
 . simp only[resolve,hg];simp[go_sem]
 . intro f' _;trivial
 . simp[invoke,go_sem,eg]
 . refine(hit n (w.heap.size+1)
    (fun pre W=>I pre W/\W.heap[w.heap.size+1]? =some (.loop (rec .ready none))/\W.heap[w.heap.size]? =some (.deferred (some [])))
    W1 (fun s A B hs hb=>⟨hIn s A B hs.1 hb,(hb.block _ (Array.getElem?_eq_some_iff.1 hs.2.1).1).trans hs.2.1,(hb.block _ (Array.getElem?_eq_some_iff.1 hs.2.2).1).trans hs.2.2⟩)
    (fun s A hs=>hIb s A hs.1) ?_ ⟨hI1,hL1,hK1⟩).mono ?_
   ·
    rintro pre x rest W hx ⟨hi,hl,hk⟩;have hlt:w.heap.size+1<W.heap.size:=(Array.getElem?_eq_some_iff.1 hl).1;have hy:=run_yield (P:=P) (args:=encs x) hl (by rw[hrec];exact hps x);rw[hrec]at hy;refine⟨fn,_,assign,body,hy,roundIn_of_wpIn trivial (hassign _ x W _ ⟨_,run_beginRound hl (by rw[hrec]), ?_⟩)⟩;have hl2:(W.putObj (w.heap.size+1) (.loop {rec .ready none with state:=.busy})).heap[w.heap.size+1]? =some (.loop {rec .ready none with state:=.busy}):=World.putObj_heap_same hlt;have hk2:(W.putObj (w.heap.size+1) (.loop {rec .ready none with state:=.busy})).heap[w.heap.size]? =some (.deferred (some [])):=(World.putObj_heap_other (by omega)).trans hk;refine wpIn_mono (hbody _ pre x rest _ hx (hIp _ _ _ _ _ hi hl rfl (.inr rfl)) ⟨_,hk2⟩ ⟨_,hl2⟩) ?_;rintro e a3 W3 hp
    cases e with
    |normal=>
     obtain⟨h1,h2,hi3⟩:=hp;have hl3:=h2.trans hl2;have hk3:=h1.trans hk2;have hr:=run_endRound (P:=P) none hl3;rw[hrec]at hr;refine⟨_,_,hr,rfl,hIp _ _ _ _ _ hi3 hl3 rfl (.inr rfl), ?_, ?_⟩
     . rw[World.putObj_heap_same (Array.getElem?_eq_some_iff.1 hl3).1,hrec];rfl
     . exact(World.putObj_heap_other (by omega)).trans hk3
    |ret=>exact hp.elim
    |exit id=>exact hp.elim
    |goto t=>exact hp.elim
    |panic ch=>exact hp.elim
    |outgrown=>exact hp.elim
   ·
    rintro e W2 ⟨⟨v,rfl⟩,hi,hl,hk⟩;exact⟨none,_,by have:=run_endLoop (P:=P) hl (by rw[hrec];simp);rw[hrec]at this;exact this,hdone _ (hIp _ _ _ _ _ hi hl rfl (.inr rfl)) ((World.putObj_heap_other (by omega)).trans hk)⟩
structure MKey {α:Type} [DecidableEq α] (P:Program) (kt:TypeId) (f:α->Value):Prop where
 under: ∃d,P.underlying kt=some d/\ ∀a b,Instr.sameNow d (f a) (f b)=some (decide (a=b))
 check: ∀e w a,(Instr.checkKey e 10000 kt (f a)).run P w=.ok () w
theorem Anu (a b:ByteArray):(a==b)=decide (a=b):=by
 obtain⟨a⟩:=a;obtain⟨b⟩:=b;have h:((⟨a⟩:ByteArray)==⟨b⟩)=(a==b):=rfl;rw[h];by_cases e:a=b<;>simp[e]
theorem Aca {P:Program} {kt:TypeId} (h:P.underlying kt=some .string):MKey P kt Value.string:=by
 refine⟨⟨_,h,fun a b=> ?_⟩,fun e w a=> ?_⟩
 . simp only[Instr.sameNow]
   congr 1
   exact Anu a b
 . have key: ∀n,(Instr.checkKey e (n+1) kt (.string a)).run P w=.ok () w:=fun n=>by simp[Instr.checkKey,run_underlying h]
   exact key 9999
theorem Ak0 {P:Program} {kt:TypeId} {q:IntKind} (h:P.underlying kt=some (.int q)):MKey P kt (Value.int q):=by
 refine⟨⟨_,h,fun a b=> ?_⟩,fun e w a=> ?_⟩
 . simp only[Instr.sameNow,if_true]
   congr 1
 . have key: ∀n,(Instr.checkKey e (n+1) kt (.int q a)).run P w=.ok () w:=fun n=>by simp[Instr.checkKey,run_underlying h]
   exact key 9999
section
variable {α:Type}
def Kr (f:α->Value):List (α×Value)->Nat->List MapEntry
 | [],_=> []
 |(k,v)::r,i=>{key:=f k,val:=v,born:=i}::Kr f r (i+1)
def De (f:α->Value) (w:World) (g:Nat) (kv:List (α×Value)):Prop:=w.heap[g]? =some (.map (Kr f kv 0).toArray kv.length)
def E8 [DecidableEq α] (a:α):List (α×Value)->Option Value
 | []=>none
 |(k,v)::r=>if a=k then some v else E8 a r
variable {f:α->Value} {P:Program} {kt et t:TypeId} {w w':World} {g:Nat} {kv:List (α×Value)}
theorem P6: ∀(kv:List (α×Value)) (i:Nat) (k:α) (v:Value),Kr f (kv++ [(k,v)]) i=Kr f kv i++ [{key:=f k,val:=v,born:=i+kv.length}]
 | [],i,k,v=>by simp[Kr]
 |(a,b)::r,i,k,v=>by
  simp only[List.cons_append,Kr,P6 r,List.length_cons];rw[show i+1+r.length=i+(r.length+1)from by omega]
theorem De.lt (h:De f w g kv):g<w.heap.size:=by
 rcases Nat.lt_or_ge g w.heap.size with h1|h1
 . exact h1
 . unfold De at h;rw[Array.getElem?_eq_none h1]at h;cases h
theorem De.keep (h:De f w g kv) (hk:w'.heap[g]? =w.heap[g]?):De f w' g kv:=hk.trans h
theorem De.below {B:Nat} (h:De f w g kv) (hb:Below B w w') (hg:g<B):De f w' g kv:=(hb.block g hg).trans h
theorem De.alloc (h:De f w g kv) (o:Obj):De f (w.alloc o) g kv:=(Below.heap_alloc w o g h.lt).trans h
theorem De.new (w:World):De f (w.alloc (.map #[] 0)) w.heap.size []:=heap_alloc_new w _
theorem De.setCell (h:De f w g kv) {p:Addr} (hp:g≠p.block) (u:Value):De f (w.setCell p u) g kv:=(Below.heap_setCell w p u g hp).trans h
variable [DecidableEq α]
theorem Q1 {d:TypeDesc} (hd: ∀a b,Instr.sameNow d (f a) (f b)=some (decide (a=b))) (a:α): ∀(kv:List (α×Value)) (i j:Nat),∃q,Instr.findNow d (f a) (Kr f kv i) j=some q/\q.map (·.2)=E8 a kv
 | [],_,_=>⟨none,rfl,rfl⟩
 |(k,v)::r,i,j=>by
  by_cases h:a=k
  . exact⟨some (j,v),by simp[Kr,Instr.findNow,hd,h],by simp[E8,h]⟩
  . obtain⟨q,h1,h2⟩:=Q1 hd a r (i+1) (j+1);exact⟨q,by simp[Kr,Instr.findNow,hd,h,h1],by rw[h2];simp[E8,h]⟩
theorem Nj (K:MKey P kt f) (ht:P.underlying t=some (.map kt et)) (h:De f w g kv) {a:α} (hn:E8 a kv=none) (v:Value):
 ∃w',(Instr.mapUpdate t (.map (some g)) (f a) v).run P w=.ok () w'/\De f w' g (kv++ [(a,v)])/\w.grownBy w' (some g)/\w'.heap.size=w.heap.size:=by
 obtain⟨d,hd,hs⟩:=K.under;obtain⟨q,h1,h2⟩:=Q1 hs a kv 0 0;rw[hn]at h2;have hq:q=none:=by cases q<;>simp_all
 subst hq;have hck:=K.check false w a;have hfk:(Instr.findKey kt (f a) (Kr f kv 0)).run P w=.ok none w:=by simp[Instr.findKey,Sem.run_bind,run_underlying hd,h1]
 have hlt:=h.lt;refine⟨{w with heap:=w.heap.setIfInBounds g (.map ((Kr f kv 0).toArray.push {key:=f a,val:=v,born:=kv.length}) (kv.length+1))}, ?_, ?_, ?_, ?_⟩
 . have hb:w.heap[g]? =some (.map (Kr f kv 0).toArray kv.length):=h;unfold Instr.mapUpdate;simp only[Sem.run_bind,run_underlying ht,Result.andThen,getObj,Sem.run,hb,hck,hfk,setObj]
 . unfold De;simp[hlt,P6]
 . exact⟨rfl,rfl,rfl,by simp,fun k hk hne=>by simp only[Array.getElem?_setIfInBounds];rw[if_neg];rintro rfl;exact hne rfl⟩
 . simp
theorem D0 {ops:Array Oper} {rest:List Oper} {o:Oper} {a:Act} {Q:Exit->Act->World->Prop} (hg:o.guard=none) (m x u:Operand) (t:TypeId) (hop:o.op=Op.insert t m x u)
 (K:MKey P kt f) (ht:P.underlying t=some (.map kt et)) (hm:a.eval m=.map (some g)) (h:De f w g kv) {k:α} {v:Value} (hx:a.eval x=f k) (hv:a.eval u=v) (hn:E8 k kv=none)
 (hK: ∀w',De f w' g (kv++ [(k,v)])->w.grownBy w' (some g)->w'.heap.size=w.heap.size->wpList P ops Q rest (a.put o.dst undef) w'):wpList P ops Q (o::rest) a w:=by
 refine wpList_plain hg fun K' hK'=> ?_;obtain⟨w',hrun,r1,r2,r3⟩:=Nj K ht h hn v;unfold Oper.wp;simp[execOp,hop,hm,hx,hv,hrun,Result.andThen];exact hK' _ _ (hK w' r1 r2 r3)
theorem Ln (K:MKey P kt f) (ht:P.underlying t=some (.map kt et)) (h:De f w g kv) (a:α) {z:Value} (hz: ∀w,(zeroValue et).run P w=.ok z w) (c:Bool):
 (Instr.lookup t (.map (some g)) (f a) c).run P w=.ok (if c then .tuple #[(E8 a kv).getD z,.bool (E8 a kv).isSome]else(E8 a kv).getD z) w:=by
 obtain⟨d,hd,hs⟩:=K.under;obtain⟨q,h1,h2⟩:=Q1 hs a kv 0 0;have hck:=fun e=>K.check e w a;have hfk:(Instr.findKey kt (f a) (Kr f kv 0)).run P w=.ok q w:=by simp[Instr.findKey,Sem.run_bind,run_underlying hd,h1]
 have hb:w.heap[g]? =some (.map (Kr f kv 0).toArray kv.length):=h;unfold Instr.lookup;simp only[Sem.run_bind,run_underlying ht,Result.andThen,getObj,Sem.run,hb]
 cases q with
 |none=>
  have:E8 a kv=none:=by cases hq:E8 a kv<;>simp_all
  rw[this]
  cases c<;>simp[hck,hfk,hz w,Result.andThen]
 |some p=>
  obtain⟨i,v⟩:=p;have:E8 a kv=some v:=by rw[<-h2];rfl
  rw[this]
  cases c<;>simp[hck,hfk]
end
theorem Ajo {t:List UInt8} {s:ByteArray}:(t==s.toList)=decide (t=s.data.toList):=by
 rw[ByteArray.toList_eq,Bool.eq_iff_iff];simp
end Go.Proofs.YtkmcjfkokoidcaaGreatDoor
