/- Parts, joined: What the readers of the kinds of mutators leave: a mutator of new memory, but for its Kind, or a panic. Plain. No condition. The mutators' readers of put, append and cas: what they make of their members. Condition: at most 10^8 members; values of a bulk of at most 10^8. A sequence's mutators, one by one, and what a reader of one leaves. Plain. No condition. The mutators' reader of move: what it makes of its members. Condition: at most 10^8 members. -/
import Derived.Test.YtkkbplakgldlpaaGreatDoorProg
import Derived.Test.YtkkbplakgldlpaaGreatDoorKMu13
import Derived.Test.YtkkbplakgldlpaaGreatDoorKMu22
import Derived.Test.YtkkbplakgldlpaaGreatDoorKMu30
import Derived.Test.YtkkbplakgldlpaaGreatDoorKMu32
namespace Go.Proofs.YtkkbplakgldlpaaGreatDoor
open Go Go.RowKit
theorem kOf_kind (k:ByteArray) (o:List (ByteArray×Val)):kOf (findO k o)=kindV (atO' k o):=by
 unfold atO'
 cases findO k o with
 |none=>rfl
 |some x=>obtain⟨_,_,_,_,_,_⟩:=x;rfl
theorem tOf_txt (k:ByteArray) (o:List (ByteArray×Val)):tOf (findO k o)=txtV' (atO' k o):=by
 unfold atO'
 cases findO k o with
 |none=>rfl
 |some x=>obtain⟨_,_,_,_,_,_⟩:=x;rfl
theorem findF_any (k:ByteArray): ∀fs:List (ByteArray×Int),(findF k fs).isSome=fs.any fun f=>decide (k=f.1)
 | []=>rfl
 |(a,x)::r=>by
  unfold findF
  rw[List.any_cons,←findF_any k r]
  by_cases h:a=k
  · simp[h]
  · rw[if_neg h,decide_eq_false (fun e=>h e.symm),Bool.false_or]
theorem mbrB_fit {fs:List (ByteArray×Int)} {all opt:List ByteArray} (o:List (ByteArray×Val)) (h1: ∀k,(fs.any fun f=>decide (k=f.1))=(all++opt).any fun x=>decide (k=x)) (h2:(fs.all fun f=>(findO f.1 o).isSome||decide (f.2=1))=all.all fun x=>(findO x o).isSome):mbrB o fs=fitB all opt o:=by
 unfold mbrB fitB
 rw[h2]
 congr 1
 congr 1
 funext p
 rw[findF_any,h1]
theorem fit_args (o:List (ByteArray×Val)):mbrB o [(kArgs,0),(kName,0)]=fitB [kArgs,kName] [] o:=mbrB_fit o (fun _=>rfl) (by simp)
def fldsK (k:Int):List (ByteArray×Int):=if k=1∨k=5 then [(kKey,0),(kVal,0)]else if k=2 then [(kKey,0)]else if k=3 then [(kBy,0),(kKey,0)]else if k=6 then [(kFrom,0),(kTo,0)]else if k=4 then [(kIs,1),(kKey,0),(kWas,1)]else [(kDo,0),(kIf,1)]
theorem fit_kind {k:Int} (h1:1≤k) (h7:k≤7) (o:List (ByteArray×Val)):mbrB o (fldsK k)=fitB (mustN k) (mayN k) o:=by
 rcases(show k=1∨k=2∨k=3∨k=4∨k=5∨k=6∨k=7 by omega)with rfl|rfl|rfl|rfl|rfl|rfl|rfl
 · exact mbrB_fit o (fun _=>rfl) (by simp[fldsK,mustN])
 · exact mbrB_fit o (fun _=>rfl) (by simp[fldsK,mustN])
 · exact mbrB_fit o (fun _=>rfl) (by simp[fldsK,mustN])
 · refine mbrB_fit o (fun k=> ?_) (by simp[fldsK,mustN])
   show(decide (k=kIs)||(decide (k=kKey)||(decide (k=kWas)||false)))=(decide (k=kKey)||(decide (k=kIs)||(decide (k=kWas)||false)))
   cases decide (k=kIs)<;>cases decide (k=kKey)<;>rfl
 · exact mbrB_fit o (fun _=>rfl) (by simp[fldsK,mustN])
 · exact mbrB_fit o (fun _=>rfl) (by simp[fldsK,mustN])
 · exact mbrB_fit o (fun _=>rfl) (by simp[fldsK,mustN])
theorem fit_guard (o:List (ByteArray×Val)):mbrB o [(kKey,0),(kWas,1)]=fitB [kKey] [kWas] o:=mbrB_fit o (fun _=>rfl) (by simp)
def kM:Mut→Int
 | .mk k _ _ _ _ _ _ _ _=>k
theorem Fresh.agg {b:Nat} {w:World} {l:List D} {cs:List Value} (h:FreshA b w l cs):Fresh b w (.agg l) cs:=h
theorem FreshA.leaf {b:Nat} {w:World} {v:Value} {l:List D} {cs:List Value} (hv:v.oneCell'=true) (h:FreshA b w l cs):FreshA b w (.leaf v::l) (v::cs):=fun w'' h1 h2=>⟨[v],cs,rfl,⟨rfl,hv⟩,h w'' h1 h2⟩
theorem FreshA.part {b:Nat} {w:World} {d:D} {l:List D} {c1 cs:List Value} (hd:Fresh b w d c1) (h:FreshA b w l cs):FreshA b w (d::l) (c1++cs):=fun w'' h1 h2=>⟨c1,cs,rfl,hd w'' h1 h2,h w'' h1 h2⟩
theorem fresh_z6 (b:Nat) (w:World):Fresh b w (dV noV) [.int .i64 0,.bool false,.int .i64 0,.string ⟨#[]⟩,.slice none 0 0,.slice none 0 0]:=fun _ _ _=>holds_z0 _ _
theorem fresh_row0 (b s:Nat) (w:World):Fresh b w (.row s []) [.slice none 0 0]:=fun _ _ _=>⟨none,0,rfl,(by simp), [],rfl,.inl rfl⟩
theorem fresh_mut {b:Nat} {w:World} (k:Int) (key dst:ByteArray) (n:Int) (had:Bool) {was:Val} (has:Bool) {v:Val} {l:List Mut} {a0 a1 a2 a3 a4 a5 b0 b1 b2 b3 b4 b5 sl:Value} (hw:Fresh b w (dV was) [a0,a1,a2,a3,a4,a5]) (hv:Fresh b w (dV v) [b0,b1,b2,b3,b4,b5]) (hl:Fresh b w (.row 19 (dMs l)) [sl]):
 Fresh b w (dM (.mk k key dst n had was has v l)) [.int .i64 k,.string key,.string dst,.int .i64 n,.bool had,a0,a1,a2,a3,a4,a5,.bool has,b0,b1,b2,b3,b4,b5,sl]:=by
 unfold dM
 exact Fresh.agg (.leaf rfl (.leaf rfl (.leaf rfl (.leaf rfl (.leaf rfl (.part hw (.leaf rfl (.part hv (.part hl (FreshA.nil _ _))))))))))
def RdP (r:Int×Mut) (w:World) (e:Ending) (w':World):Prop:=Below w.heap.size w w'∧if r.1≠0 then e=wrongE r.1 else ∃cs:List Value,e=.returned (.agg (.int .i64 0::cs).toArray)∧Fresh w.heap.size w' (dM r.2) (.int .i64 (kM r.2)::cs)
theorem RdP.no {r:Int×Mut} {w w':World} {c:Int} (h:r.1=c) (hc:c≠0) (hb:Below w.heap.size w w'):RdP r w (wrongE c) w':=⟨hb,by rw[if_pos (by omega),h]⟩
theorem RdP.yes {m:Mut} {w w':World} {cs:List Value} (hb:Below w.heap.size w w') (hf:Fresh w.heap.size w' (dM m) (.int .i64 (kM m)::cs)):RdP (0,m) w (.returned (.agg (.int .i64 0::cs).toArray)) w':=⟨hb,by rw[if_neg (by simp)];exact⟨cs,rfl,hf⟩⟩
theorem RdP.yes' {r:Int×Mut} {m:Mut} {w w':World} {cs:List Value} (h:r=(0,m)) (hb:Below w.heap.size w w') (hf:Fresh w.heap.size w' (dM m) (.int .i64 (kM m)::cs)):RdP r w (.returned (.agg (.int .i64 0::cs).toArray)) w':=h▸RdP.yes hb hf
theorem argsM_del (f:Val→Int×Mut) (o:List (ByteArray×Val)):argsM f 2 o=if kindV (atO' kKey o)≠4 then(9,noM)else(0,.mk 2 (txtV' (atO' kKey o)) nil0 0 false noV false noV []):=by
 unfold argsM
 rw[if_neg (by omega),if_neg (by omega),if_neg (by omega)]
 simp only[show ¬((2:Int)=3)by omega,show ¬((2:Int)=4)by omega,if_false,if_true]
theorem argsM_inc (f:Val→Int×Mut) (o:List (ByteArray×Val)):argsM f 3 o=if kindV (atO' kBy o)≠3 then(9,noM)else if kindV (atO' kKey o)≠4 then(9,noM)else(0,.mk 3 (txtV' (atO' kKey o)) nil0 (intV' (atO' kBy o)) false noV false noV []):=by
 unfold argsM
 rw[if_neg (by omega),if_neg (by omega)]
 simp only[true_and,if_true]
theorem argsM_move (f:Val→Int×Mut) (o:List (ByteArray×Val)):argsM f 6 o=if kindV (atO' kFrom o)≠4 then(9,noM)else if kindV (atO' kTo o)≠4 then(9,noM)else(0,.mk 6 (txtV' (atO' kFrom o)) (txtV' (atO' kTo o)) 0 false noV false noV []):=by
 unfold argsM
 rw[if_neg (by omega),if_pos rfl]
 by_cases h1:kindV (atO' kFrom o)=4
 · by_cases h2:kindV (atO' kTo o)=4
   · rw[if_neg (by omega),if_neg (by omega),if_neg (by omega)]
   · rw[if_pos (.inr h2),if_neg (by omega),if_pos h2]
 · rw[if_pos (.inl h1),if_pos h1]
theorem argsM_val (f:Val→Int×Mut) {k:Int} (hk:k=1∨k=5) (o:List (ByteArray×Val)):argsM f k o=if kindV (atO' kKey o)≠4 then(9,noM)else(0,.mk k (txtV' (atO' kKey o)) nil0 0 false noV false (atO' kVal o) []):=by
 unfold argsM
 rw[if_neg (by omega),if_neg (by omega),if_neg (by omega)]
 rw[if_neg (show ¬k=3 by omega),if_neg (show ¬k=4 by omega),if_neg (show ¬k=2 by omega)]
theorem argsM_cas (f:Val→Int×Mut) (o:List (ByteArray×Val)):argsM f 4 o=if kindV (atO' kKey o)≠4 then(9,noM)else(0,.mk 4 (txtV' (atO' kKey o)) nil0 0 (findO kWas o).isSome (atO' kWas o) (findO kIs o).isSome (atO' kIs o) []):=by
 unfold argsM
 rw[if_neg (by omega),if_neg (by omega),if_neg (by omega)]
 rw[if_neg (show ¬(4:Int)=3 by omega),if_pos rfl]
theorem rdel_kind (f:Val→Int×Mut) {o:List (ByteArray×Val)} {w w':World} {e:Ending} (h:RdDel o w e w'):RdP (argsM f 2 o) w e w':=by
 obtain⟨hb,h⟩:=h
 rw[show(⟨#[107,101,121]⟩:ByteArray)=kKey from rfl,kOf_kind,tOf_txt]at h
 rw[argsM_del]
 by_cases h4:kindV (atO' kKey o)=4
 · rw[if_neg (by omega)]
   rw[if_pos h4]at h
   subst h
   exact RdP.yes hb (fresh_mut 2 _ _ _ _ _ (fresh_z6 _ _) (fresh_z6 _ _) (fresh_row0 _ _ _))
 · rw[if_pos h4]
   rw[if_neg h4]at h
   subst h
   exact RdP.no rfl (by omega) hb
section
variable {P:Program}
theorem wp_store_far {op:Oper} {a:Act} {w:World} {K:Act→World→Prop} {Q:Exit→Act→World→Prop} (ty:TypeId) (x y:Operand) (ho:op.op=.store ty x y) (g o:Nat) {t:TypeId} {cs:Array Value} (hb:Blk w g t cs) (v:Value)
 (hx:a.eval x=.pointer (some ⟨g,o,none⟩)) (hy:a.eval y=v) (hl:o+v.cells.size≤cs.size) (hi:(P.info? ty).map (·.size)=some v.cells.size) (h1: ∀u ∈ v.cells.toList,u.oneCell'=true)
 {B:Nat} {w0:World} (hB:Below B w0 w) (hg:B≤g) (h: ∀w',Blk w' g t (over cs o v.cells.toList)→Below B w0 w'→w'.heap.size=w.heap.size→(∀i,i≠g→w'.heap[i]? =w.heap[i]?)→K (a.put op.dst undef) w'):op.wp P a w K Q:=by
 have ht:w.there g o v.cells.size:=fun j hj=>by
  refine⟨?_,hb.frozen _⟩
  rw[hb.cell (o+j),Array.getElem?_eq_getElem (by omega)]
  rfl
 unfold Oper.wp execOp
 simp only[ho,hx,hy,Instr.storeAt,Instr.sureAddr,Sem.run_bind,Sem.run_pure,Result.andThen_ok,run_storeVar_any w g o ty v ht hi h1]
 rw[setCells_many]
 exact h _ (setMany_at _ hb) (setMany_below _ hB hg) (setMany_size _ _ _ _) fun i hi=>setMany_far _ _ _ _ _ hi
end
end Go.Proofs.YtkkbplakgldlpaaGreatDoor

namespace Go.Proofs.YtkkbplakgldlpaaGreatDoor
open Go Go.RowKit
structure RC (w:World) (M:Nat) (wr:World) (cs:Array Value):Prop where
 rb:RB w wr z19
 var:Blk wr M Tmut cs
 ne:w.heap.size<M
theorem RC.call {w wr w':World} {M:Nat} {cs:Array Value} (h:RC w M wr cs) (hb:Below wr.heap.size wr w'):RC w M w' cs:=⟨h.rb.call hb,h.var.below hb h.var.lt,h.ne⟩
theorem RC.put {w wr w':World} {M:Nat} {cs cs':Array Value} (h:RC w M wr cs) (hx:Blk w' M Tmut cs') (hb:Below w.heap.size w w') (hf: ∀i,i≠M→w'.heap[i]? =wr.heap[i]?):RC w M w' cs':=
 ⟨⟨hb,by have:=h.ne;exact(hf w.heap.size (by omega)).trans h.rb.res⟩,hx,h.ne⟩
theorem over_value {a0 a1 a2 a3 a4 a5 a6 a7 a8 a9 a10 a11 c0 c1 c2 c3 c4 c5 b0 b1 b2 b3 b4 b5 a18:Value}:over #[a0,a1,a2,a3,a4,a5,a6,a7,a8,a9,a10,a11,c0,c1,c2,c3,c4,c5,a18] 12 [b0,b1,b2,b3,b4,b5]= #[a0,a1,a2,a3,a4,a5,a6,a7,a8,a9,a10,a11,b0,b1,b2,b3,b4,b5,a18]:=by
 simp only[over,List.setIfInBounds_toArray,List.set_cons_succ,List.set_cons_zero]
theorem over_was {a0 a1 a2 a3 a4 c0 c1 c2 c3 c4 c5 b0 b1 b2 b3 b4 b5 a11 a12 a13 a14 a15 a16 a17 a18:Value}:over #[a0,a1,a2,a3,a4,c0,c1,c2,c3,c4,c5,a11,a12,a13,a14,a15,a16,a17,a18] 5 [b0,b1,b2,b3,b4,b5]= #[a0,a1,a2,a3,a4,b0,b1,b2,b3,b4,b5,a11,a12,a13,a14,a15,a16,a17,a18]:=by
 simp only[over,List.setIfInBounds_toArray,List.set_cons_succ,List.set_cons_zero]
theorem six_of {b:Nat} {w:World} {v:Val} {cs:List Value} (h:Fresh b w (dV v) cs): ∃k bb n t la ln lc oa on oc,cs= [.int .i64 k,.bool bb,.int .i64 n,.string t,.slice la ln lc,.slice oa on oc]:=by
 obtain⟨k,bb,n,t,l,o⟩:=v
 obtain⟨la,lc,oa,oc,rfl⟩:=six_now h
 exact⟨_,_,_,_,_,_,_,_,_,_,rfl⟩
theorem atO'_z (key:ByteArray) (o:List (ByteArray×Val)):(findO key o).getD zV0=atO' key o:=rfl
set_option maxRecDepth 100000 in
set_option maxHeartbeats 8000000 in
theorem rval_calls (f:Val→Int×Mut) {kd:Int} (hkd:kd=1∨kd=5) (o:List (ByteArray×Val)) (a:Option Addr) (c:Nat) (w:World) (h:Holds w w.heap.size (.row 7 (dO o)) [.slice a o.length c]) (hl:o.length≤100000000) (hb: ∀key x,findO key o=some x→x.bulk≤100000000):
 Calls Tryz.prog 110 #[.slice a o.length c] w (RdP (argsM f kd o) w):=by
 have hI0:RB w (w.alloc (.cells z19 Tmut)) z19:=⟨(Below.refl _ _).alloc (Nat.le_refl _) _,Blk.new w _ _⟩
 obtain⟨wi,hwi⟩: ∃wi,w.alloc (.cells z19 Tmut)=wi:=⟨_,rfl⟩
 rw[hwi]at hI0
 have hT:=mtext_calls o a c ⟨#[107,101,121]⟩ wi ((h.below hI0.below).more hI0.below.size) hl
 have hz0:=hI0.below.size
 obtain⟨RES,hRES⟩: ∃r,argsM f kd o=r:=⟨_,rfl⟩
 rw[hRES]
 rw[argsM_val f hkd]at hRES
 have HI0:=Lib.hid hI0
 have HT:=Lib.hid hT
 have H:=Lib.hid h
 have Hb:=Lib.hid hb
 clear hI0 hT h hb
 go_enter Tryz.func110,Tryz.ntmps110
 go_upto_region 1 with(fail)
 clear hwi
 go_wp2_with (fail)
 with_reducible refine(HT.out).mono ?_
 rintro e w2 ⟨hb2,rfl⟩
 have hI2:=HI0.out.call hb2
 have hP2:Below w.heap.size w w2:=hI2.below
 rw[kOf_kind,tOf_txt,show(⟨#[107,101,121]⟩:ByteArray)=kKey from rfl]
 generalize kindV (atO' kKey o)=k at hRES ⊢
 generalize txtV' (atO' kKey o)=t at hRES ⊢
 by_cases h4:k=4
 rotate_left
 · rw[if_neg h4]
   rw[if_pos h4]at hRES
   have HP2:=Lib.hid hP2
   have HRES:=Lib.hid hRES
   clear hP2 hRES
   clear hb2 hI2 h4
   go_wp2
   exact⟨rfl,RdP.no (by rw[←HRES.out]) (by omega) HP2.out⟩
 subst h4
 rw[if_pos rfl]
 rw[if_neg (by simp)]at hRES
 have hsz2:w.heap.size<w2.heap.size:=hI2.res.lt
 have hI3:RC w w2.heap.size (w2.alloc (.cells (two19 t ⟨#[]⟩) Tmut)) (two19 t ⟨#[]⟩):=⟨hI2.call (alloc_below _ _),Blk.new _ _ _,hsz2⟩
 have HI2:=Lib.hid hI2
 have HI3:=Lib.hid hI3
 have HRES:=Lib.hid hRES
 clear hI2 hI3 hRES
 clear hb2 hP2
 dsimp only
 iterate 8 go_step
 refine wp_store_new Tmut (.tmp 3) (.tmp 6) rfl (cs0:=z19) (two19 t ⟨#[]⟩) rfl rfl rfl (by kernel_rfl) (by simp[Value.oneCell']) ?_
 obtain⟨wj,hwj⟩: ∃wj,w2.alloc (.cells (two19 t ⟨#[]⟩) Tmut)=wj:=⟨_,rfl⟩
 have hI4:=HI3.out
 rw[hwj]at hI4 ⊢
 have hP4:Below w.heap.size w wj:=hI4.rb.below
 have hC:=mcopied_calls o a c ⟨#[118,97,108,117,101]⟩ wj ((H.out.below hP4).more hP4.size) hl (Hb.out _)
 have HI4:=Lib.hid hI4
 have HC:=Lib.hid hC
 clear hI4 hC
 clear hwj HI3 hP4
 go_upto_region 2 with(fail)
 go_wp2_with (fail)
 with_reducible refine(HC.out).mono ?_
 rintro e w5 ⟨hb5,cs5,rfl,hf5⟩
 rw[show(⟨#[118,97,108,117,101]⟩:ByteArray)=kVal from rfl,atO'_z]at hf5
 obtain⟨b0,b1,b2,b3,la,ln,lc,oa,on,oc,rfl⟩:=six_of hf5
 have hI5:=HI4.out.call hb5
 have hge:=HI4.out.var.lt
 have HI5:=Lib.hid hI5
 have Hf5:=Lib.hid hf5
 have Hge:=Lib.hid hge
 clear hI5 hf5 hge
 clear hb5
 dsimp only
 iterate 14 go_step
 refine wp_store_far 27 (.tmp 12) (.tmp 10) rfl w2.heap.size 12 HI5.out.var (.agg #[.int .i64 b0,.bool b1,.int .i64 b2,.string b3,.slice la ln lc,.slice oa on oc]) rfl rfl (Nat.le_of_ble_eq_true rfl) (by kernel_rfl) (by simp[Value.cells,Value.oneCell']) HI5.out.rb.below (Nat.le_of_lt HI5.out.ne) ?_
 intro w6 hx6 hb6 hs6 hfar
 rw[show(Value.agg #[.int .i64 b0,.bool b1,.int .i64 b2,.string b3,.slice la ln lc,.slice oa on oc]).cells.toList= [.int .i64 b0,.bool b1,.int .i64 b2,.string b3,.slice la ln lc,.slice oa on oc]from by simp only[Value.cells]]at hx6
 rw[over_value]at hx6
 have hI6:=HI5.out.put hx6 hb6 hfar
 have hf6:Fresh wj.heap.size w6 (dV (atO' kVal o)) [.int .i64 b0,.bool b1,.int .i64 b2,.string b3,.slice la ln lc,.slice oa on oc]:=Hf5.out.keep (Nat.le_refl _) (by omega) fun p p1 _=>World.cell?_of_block (hfar _ (by have:=Hge.out;omega))
 have HI6:=Lib.hid hI6
 have Hf6:=Lib.hid hf6
 clear hI6 hf6
 clear hx6 hb6 hfar HI5
 dsimp only
 go_upto_region 3 with(fail)
 iterate 2 go_step
 refine wp_load_blk Tmut (.tmp 3) rfl w2.heap.size _ HI6.out.var rfl _ Tryz.underlying30 rfl (by kernel_rfl) ?_
 iterate 2 go_step
 obtain⟨ca,hca⟩: ∃ca:Array Value, #[.int .i64 0,.string t,.string ⟨#[]⟩,.int .i64 0,.bool false,.int .i64 0,.bool false,.int .i64 0,.string ⟨#[]⟩,.slice none 0 0,.slice none 0 0,.bool false,.int .i64 b0,.bool b1,.int .i64 b2,.string b3,.slice la ln lc,.slice oa on oc,.slice none 0 0]=ca:=⟨_,rfl⟩
 have hsc:z19.size=ca.size:=by rw[←hca];rfl
 have hcc: ∀u ∈ ca.toList,u.oneCell'=true:=by rw[←hca];simp[Value.oneCell']
 refine wp_store_far (cs:=z19) Tmut (.tmp 2) (.tmp 13) rfl w.heap.size 0 HI6.out.rb.res (.agg ca) rfl (by rw[←hca];rfl) (by simp only[Value.cells];rw[←hsc];exact Nat.le_of_ble_eq_true rfl) (by simp only[Value.cells];rw[←hsc];kernel_rfl) (by simp only[Value.cells];exact hcc) HI6.out.rb.below (Nat.le_refl _) ?_
 intro w7 hx7 hb7 hs7 hfar
 rw[show(Value.agg ca).cells=ca from by simp only[Value.cells],over_all z19 ca hsc]at hx7
 have hlo:w.heap.size<wj.heap.size:=by have:=Hge.out;have:=HI6.out.ne;omega
 have hf7:Fresh w.heap.size w7 (dV (atO' kVal o)) [.int .i64 b0,.bool b1,.int .i64 b2,.string b3,.slice la ln lc,.slice oa on oc]:=Hf6.out.keep (Nat.le_of_lt hlo) (by omega) fun p p1 _=>World.cell?_of_block (hfar _ (by omega))
 have Hx7:=Lib.hid hx7
 have Hf7:=Lib.hid hf7
 have Hb7:=Lib.hid hb7
 have Hca:=Lib.hid hca
 clear hx7 hf7 hb7 hca
 clear hfar hsc hcc
 repeat go_step
 have hf8:=HRES.out▸RdP.yes' (m:=.mk kd t nil0 0 false noV false (atO' kVal o) []) rfl Hb7.out (fresh_mut kd t nil0 0 false false (fresh_z6 _ _) Hf7.out (fresh_row0 _ _ _))
 exact bodyPost_ret (results_blk rfl rfl Hx7.out Tryz.underlying30 rfl (by rw[←Hca.out];kernel_rfl)) rfl (by rw[←Hca.out];exact hf8)
end Go.Proofs.YtkkbplakgldlpaaGreatDoor

namespace Go.Proofs.YtkkbplakgldlpaaGreatDoor
open Go Go.RowKit
theorem eachM_pre {f:Val→Int×Mut}: ∀{l r:List Val},(eachM f l).1≠0→(eachM f (l++r)).1=(eachM f l).1
 | [],_,h=>absurd rfl h
 |x::l,r,h=>by
  simp only[List.cons_append,eachM]at h ⊢
  by_cases h1:(f x).1≠0
  · rw[if_pos h1,if_pos h1]
  · rw[if_neg h1]at h ⊢
    rw[if_neg h1]
    by_cases h2:(eachM f l).1≠0
    · rw[if_pos h2,if_pos (by rw[eachM_pre h2];exact h2),eachM_pre h2]
    · rw[if_neg h2]at h
      exact absurd rfl h
theorem eachM_one {f:Val→Int×Mut}: ∀{l:List Val} {v:Val},(eachM f l).1=0→eachM f (l++ [v])=if(f v).1≠0 then((f v).1, [])else(0,(eachM f l).2++ [(f v).2])
 | [],v,_=>by
   simp only[List.nil_append,eachM]
   by_cases h1:(f v).1≠0
   · rw[if_pos h1,if_pos h1]
   · rw[if_neg h1,if_neg h1];rfl
 |x::l,v,h=>by
  simp only[List.cons_append,eachM]at h ⊢
  by_cases h1:(f x).1≠0
  · rw[if_pos h1]at h;exact absurd h h1
  · rw[if_neg h1]at h ⊢
    by_cases h2:(eachM f l).1≠0
    · rw[if_pos h2]at h;exact absurd h h2
    · have h0:(eachM f l).1=0:=by simpa using h2
      rw[eachM_one h0,if_neg h1,if_neg h2]
      by_cases h3:(f v).1≠0
      · simp[h3]
      · simp only[ne_eq,Decidable.not_not]at h3
        simp[h3]
theorem eachM_len {f:Val→Int×Mut}: ∀{l:List Val},(eachM f l).2.length≤l.length
 | []=>Nat.le_refl _
 |v::l=>by
  unfold eachM
  have:=eachM_len (f:=f) (l:=l)
  split
  · exact Nat.zero_le _
  split
  · exact Nat.zero_le _
  · simp only[List.length_cons];omega
theorem eachM_bad {f:Val→Int×Mut} {l:List Val} {q:Nat} {x:Val} (hx:l[q]? =some x) (h0:(eachM f (l.take q)).1=0) (hc:(f x).1≠0):(eachM f l).1=(f x).1:=by
 have e1:l.take (q+1)=l.take q++ [x]:=by rw[List.take_add_one,hx];rfl
 have e2:(eachM f (l.take (q+1))).1=(f x).1:=by rw[e1,eachM_one h0,if_pos hc]
 have e3:=eachM_pre (f:=f) (l:=l.take (q+1)) (r:=l.drop (q+1)) (by rw[e2];exact hc)
 rw[List.take_append_drop]at e3
 rw[e3,e2]
theorem argsM_seq (f:Val→Int×Mut) (o:List (ByteArray×Val)):argsM f 7 o=if kindV (atO' kDo o)≠5 then(9,noM)else if(eachM f (lstV' (atO' kDo o))).1≠0 then((eachM f (lstV' (atO' kDo o))).1,noM)else
 match findO kIf o with
 |none=>(0,.mk 7 nil0 nil0 0 false noV false noV (eachM f (lstV' (atO' kDo o))).2)
 |some g=>guardM g (eachM f (lstV' (atO' kDo o))).2:=by
 unfold argsM
 rw[if_pos rfl]
 rfl
abbrev Tnd:TypeId:=103
theorem fit_two {S:Nat→Prop} {k:Int} {o:List (ByteArray×Val)} {w:World}:MbrPost S k o [(kKey,0),(kWas,1)] w=fun e w'=>Below w.heap.size w w'∧
 if k≠6 then e=wrongE 9 else if fitB [kKey] [kWas] o=false then e=wrongE 10 else ∃a c,e=.returned (.slice a o.length c)∧HoldsIn (fun i=>S i∨w.heap.size≤i) w' (.row 7 (dO o)) [.slice a o.length c]:=by
 funext e w'
 unfold MbrPost
 rw[fit_guard]
def RdQ (r:Int×Mut) (w:World) (e:Ending) (w':World):Prop:=Below w.heap.size w w'∧if r.1≠0 then e=wrongE r.1 else ∃ca:Array Value,e=.returned (.agg ca)∧Fresh w.heap.size w' (dM r.2) ca.toList
theorem mut_info:(Tryz.prog.info? Tmut).map (fun i=>(i.zero,i.size,i.bytes))=some (some (.agg z19),19,264):=by kernel_rfl
structure SI (w:World) (M X:Nat) (six:Array Value) (f:Val→Int×Mut) (l:List Val) (q:Nat) (wr:World) (V:Value):Prop where
 rc:RC w M wr #[.int .i64 0,.string ⟨#[]⟩,.string ⟨#[]⟩,.int .i64 0,.bool false,.int .i64 0,.bool false,.int .i64 0,.string ⟨#[]⟩,.slice none 0 0,.slice none 0 0,.bool false,.int .i64 0,.bool false,.int .i64 0,.string ⟨#[]⟩,.slice none 0 0,.slice none 0 0,V]
 box:Blk wr X 27 six
 ge:M<X∧w.heap.size<X
 row:RowD (X+1) Tmut 19 wr (dMs (eachM f (l.take q)).2) V
theorem SI.call {w:World} {M X:Nat} {six:Array Value} {f:Val→Int×Mut} {l:List Val} {q:Nat} {wr w':World} {V:Value} (h:SI w M X six f l q wr V) (hb:Below wr.heap.size wr w'):SI w M X six f l q w' V:=
 ⟨h.rc.call hb,h.box.below hb h.box.lt,h.ge,h.row.below hb⟩
theorem run_one19 (W:World) (a0 a1 a2 a3 a4 a5 a6 a7 a8 a9 a10 a11 a12 a13 a14 a15 a16 a17 a18:Value):(Instr.buildSlice 28 1 #[(0,.agg #[a0,a1,a2,a3,a4,a5,a6,a7,a8,a9,a10,a11,a12,a13,a14,a15,a16,a17,a18])]).run Tryz.prog W=.ok (.slice (some ⟨W.heap.size,0,none⟩) 1 1) (W.alloc (.cells #[a0,a1,a2,a3,a4,a5,a6,a7,a8,a9,a10,a11,a12,a13,a14,a15,a16,a17,a18] Tmut)):=by kernel_rfl
theorem nineteen {ca:Array Value} (h:ca.size=19): ∃a0 a1 a2 a3 a4 a5 a6 a7 a8 a9 a10 a11 a12 a13 a14 a15 a16 a17 a18:Value,ca= #[a0,a1,a2,a3,a4,a5,a6,a7,a8,a9,a10,a11,a12,a13,a14,a15,a16,a17,a18]:=by
 obtain⟨l⟩:=ca
 have h':l.length=19:=h
 match l,h' with
 | [a0,a1,a2,a3,a4,a5,a6,a7,a8,a9,a10,a11,a12,a13,a14,a15,a16,a17,a18],_=>exact⟨a0,a1,a2,a3,a4,a5,a6,a7,a8,a9,a10,a11,a12,a13,a14,a15,a16,a17,a18,rfl⟩
theorem FndIn.held {S:Nat→Prop} {w0:World} {o:List (ByteArray×Val)} {key:ByteArray} {w w':World} {e:Ending} (h:FndIn S w0 o key w e w'):Below w.heap.size w w'∧ ∃k b n t l ob la lc oa oc,(findO key o).getD zV0=.mk k b n t l ob∧
 e=.returned (.tuple #[.agg #[.int .i64 k,.bool b,.int .i64 n,.string t,.slice la (l:List Val).length lc,.slice oa (ob:List (ByteArray×Val)).length oc],.bool (findO key o).isSome])∧
 HoldsIn S w0 (dV (.mk k b n t l ob)) [.int .i64 k,.bool b,.int .i64 n,.string t,.slice la l.length lc,.slice oa ob.length oc]:=by
 obtain⟨hb,h⟩:=h
 refine⟨hb, ?_⟩
 cases hf:findO key o with
 |none=>
  rw[hf]at h
  exact⟨0,false,0,⟨#[]⟩, [], [],none,0,none,0,rfl,h,in_noV _ _⟩
 |some x=>
  rw[hf]at h
  obtain⟨cs,rfl,hh⟩:=h
  obtain⟨k,b,n,t,l,ob⟩:=x
  obtain⟨la,lc,oa,oc,rfl⟩:=six_in hh
  exact⟨k,b,n,t,l,ob,la,lc,oa,oc,rfl,rfl,hh⟩
set_option maxRecDepth 100000 in
theorem wp_one {op:Oper} {a:Act} {w:World} {K:Act→World→Prop} {Q:Exit→Act→World→Prop} (x:Operand) (ho:op.op=.buildSlice 28 1 #[(0,x)]) {ca:Array Value} (hx:a.eval x=.agg ca) (hc:ca.size=19)
 (h:K (a.put op.dst (.slice (some ⟨w.heap.size,0,none⟩) 1 1)) (w.alloc (.cells ca Tmut))):op.wp Tryz.prog a w K Q:=by
 obtain⟨a0,a1,a2,a3,a4,a5,a6,a7,a8,a9,a10,a11,a12,a13,a14,a15,a16,a17,a18,rfl⟩:=nineteen hc
 have hr:=run_one19 w a0 a1 a2 a3 a4 a5 a6 a7 a8 a9 a10 a11 a12 a13 a14 a15 a16 a17 a18
 unfold Oper.wp execOp
 simp only[ho,hx,List.map_toArray,List.map_cons,List.map_nil,Sem.run_bind,Sem.run_pure,Result.andThen_ok,hr]
 exact h
end Go.Proofs.YtkkbplakgldlpaaGreatDoor

namespace Go.Proofs.YtkkbplakgldlpaaGreatDoor
open Go Go.RowKit
set_option maxRecDepth 100000 in
set_option maxHeartbeats 8000000 in
theorem rmove_calls (f:Val→Int×Mut) (o:List (ByteArray×Val)) (a:Option Addr) (c:Nat) (w:World) (h:Holds w w.heap.size (.row 7 (dO o)) [.slice a o.length c]) (hl:o.length≤100000000):
 Calls Tryz.prog 76 #[.slice a o.length c] w (RdP (argsM f 6 o) w):=by
 have hI0:RB w (w.alloc (.cells z19 Tmut)) z19:=⟨(Below.refl _ _).alloc (Nat.le_refl _) _,Blk.new w _ _⟩
 obtain⟨wi,hwi⟩: ∃wi,w.alloc (.cells z19 Tmut)=wi:=⟨_,rfl⟩
 rw[hwi]at hI0
 have hT:=mtext_calls o a c ⟨#[102,114,111,109]⟩ wi ((h.below hI0.below).more hI0.below.size) hl
 have hz0:=hI0.below.size
 obtain⟨RES,hRES⟩: ∃r,argsM f 6 o=r:=⟨_,rfl⟩
 rw[hRES]
 rw[argsM_move]at hRES
 have HI0:=Lib.hid hI0
 have HT:=Lib.hid hT
 have H:=Lib.hid h
 clear hI0 hT h
 go_enter Tryz.func76,Tryz.ntmps76
 go_upto_region 1 with(fail)
 clear hwi
 go_wp2_with (fail)
 with_reducible refine(HT.out).mono ?_
 rintro e w2 ⟨hb2,rfl⟩
 have hI2:=HI0.out.call hb2
 have hP2:Below w.heap.size w w2:=hI2.below
 rw[kOf_kind,tOf_txt,show(⟨#[102,114,111,109]⟩:ByteArray)=kFrom from rfl]
 generalize kindV (atO' kFrom o)=k at hRES ⊢
 generalize txtV' (atO' kFrom o)=t at hRES ⊢
 by_cases h4:k=4
 · subst h4
   rw[if_pos rfl]
   rw[if_neg (by simp)]at hRES
   have hT2:=mtext_calls o a c ⟨#[116,111]⟩ w2 ((H.out.below hP2).more hP2.size) hl
   have HI2:=Lib.hid hI2
   have HT2:=Lib.hid hT2
   clear hI2 hT2
   clear hb2 hP2
   dsimp only
   go_upto_region 2 with(fail)
   go_wp2_with (fail)
   with_reducible refine(HT2.out).mono ?_
   rintro e w3 ⟨hb3,rfl⟩
   have hI3:=HI2.out.call hb3
   have hP3:Below w.heap.size w w3:=hI3.below
   rw[kOf_kind,tOf_txt,show(⟨#[116,111]⟩:ByteArray)=kTo from rfl]
   generalize kindV (atO' kTo o)=k at hRES ⊢
   generalize txtV' (atO' kTo o)=u at hRES ⊢
   by_cases h4:k=4
   · subst h4
     rw[if_pos rfl]
     rw[if_neg (by simp)]at hRES
     have HI3:=Lib.hid hI3
     have HP3:=Lib.hid hP3
     have HRES:=Lib.hid hRES
     clear hI3 hP3 hRES
     clear hb3
     dsimp only
     iterate 5 go_step
     refine wp_store_blk (cs:=z19) Tmut (.tmp 2) (.tmp 9) rfl w.heap.size 0 HI3.out.res (.agg (two19 t u)) rfl rfl (Nat.le_of_ble_eq_true rfl) (by kernel_rfl) (by simp[Value.cells,Value.oneCell']) HI3.out.below (Nat.le_refl _) ?_
     intro w4 hx4 hb4
     have hx5:Blk w4 w.heap.size Tmut (two19 t u):=by
      have hx:=hx4
      rw[show(Value.agg (two19 t u)).cells=two19 t u from by simp only[Value.cells],over_all z19 (two19 t u) rfl]at hx
      exact hx
     clear hx4
     have Hx5:=Lib.hid hx5
     clear hx5
     repeat go_step
     exact bodyPost_ret (results_blk rfl rfl Hx5.out Tryz.underlying30 rfl (by kernel_rfl)) rfl (RdP.yes' HRES.out.symm hb4 (fresh_mut 6 _ _ _ _ _ (fresh_z6 _ _) (fresh_z6 _ _) (fresh_row0 _ _ _)))
   · rw[if_neg h4]
     rw[if_pos h4]at hRES
     have HP3:=Lib.hid hP3
     have HRES:=Lib.hid hRES
     clear hP3 hRES
     clear hb3 hI3 h4
     go_wp2
     exact⟨rfl,RdP.no (by rw[←HRES.out]) (by omega) HP3.out⟩
 · rw[if_neg h4]
   rw[if_pos h4]at hRES
   have HP2:=Lib.hid hP2
   have HRES:=Lib.hid hRES
   clear hP2 hRES
   clear hb2 hI2 h4
   go_wp2
   exact⟨rfl,RdP.no (by rw[←HRES.out]) (by omega) HP2.out⟩
end Go.Proofs.YtkkbplakgldlpaaGreatDoor
