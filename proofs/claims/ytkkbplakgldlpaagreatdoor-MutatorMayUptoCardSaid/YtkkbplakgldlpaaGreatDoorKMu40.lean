/- Parts, joined: A mutator's reader, as a plain step; a map's lookup that tells whether. Plain. No condition. The mutators' reader of inc: what it makes of its members. Condition: at most 10^8 members. The mutators' reader of cas: what it makes of its members. Condition: at most 10^8 members; values of a bulk of at most 10^8. -/
import Derived.Test.YtkkbplakgldlpaaGreatDoorProg
import Derived.Deep.RegionHeld3
import Derived.Test.YtkkbplakgldlpaaGreatDoorKMu29
import Derived.Test.YtkkbplakgldlpaaGreatDoorKMu36
namespace Go.Proofs.YtkkbplakgldlpaaGreatDoor
open Go Go.RowKit
def readB (r:Val→Int×Mut) (v:Val):Int×Mut:=
 if kindV v≠6 then(9,noM)else if fitB [kArgs,kName] [] (objV' v)=false then(10,noM)else
 if kindV (atO' kName (objV' v))≠4 then(9,noM)else
 match kindOf (txtV' (atO' kName (objV' v)))with
 |none=>(12,noM)
 |some k=>
  if kindV (atO' kArgs (objV' v))≠6 then(9,noM)else if fitB (mustN k) (mayN k) (objV' (atO' kArgs (objV' v)))=false then(10,noM)else
  argsM r k (objV' (atO' kArgs (objV' v)))
theorem readM_readB (f:Nat) (v:Val):readM (f+1) v=readB (readM f) v:=rfl
theorem guardM_kind {g:Val} {l:List Mut} (h:(guardM g l).1=0):kM (guardM g l).2=7:=by
 unfold guardM at h ⊢
 split at h
 · cases h
 rename_i h1
 rw[if_neg h1]
 split at h
 · cases h
 rename_i h2
 rw[if_neg h2]
 split at h
 · cases h
 rename_i h3
 rw[if_neg h3]
 split at h
 · cases h
 rename_i h4
 rw[if_neg h4]
 rfl
theorem argsM_kind {f:Val→Int×Mut} {k:Int} {o:List (ByteArray×Val)} (h1:1≤k) (h7:k≤7) (h:(argsM f k o).1=0):kM (argsM f k o).2=k:=by
 rcases(show k=1∨k=2∨k=3∨k=4∨k=5∨k=6∨k=7 by omega)with rfl|rfl|rfl|rfl|rfl|rfl|rfl
 · rw[argsM_val f (.inl rfl)]at h ⊢
   split at h
   · cases h
   · rename_i h1;rw[if_neg h1];rfl
 · rw[argsM_del]at h ⊢
   split at h
   · cases h
   · rename_i h1;rw[if_neg h1];rfl
 · rw[argsM_inc]at h ⊢
   split at h
   · cases h
   rename_i h1;rw[if_neg h1]
   split at h
   · cases h
   · rename_i h1;rw[if_neg h1];rfl
 · rw[argsM_cas]at h ⊢
   split at h
   · cases h
   · rename_i h1;rw[if_neg h1];rfl
 · rw[argsM_val f (.inr rfl)]at h ⊢
   split at h
   · cases h
   · rename_i h1;rw[if_neg h1];rfl
 · rw[argsM_move]at h ⊢
   split at h
   · cases h
   rename_i h1;rw[if_neg h1]
   split at h
   · cases h
   · rename_i h1;rw[if_neg h1];rfl
 · rw[argsM_seq]at h ⊢
   split at h
   · cases h
   rename_i h1;rw[if_neg h1]
   split at h
   · rename_i h2;exact absurd h h2
   rename_i h2;rw[if_neg h2]
   cases hf:findO kIf o with
   |none=>rfl
   |some g=>
    rw[hf]at h
    exact guardM_kind h
section
variable {α:Type} [DecidableEq α] {f:α→Value} {P:Program} {kt et t:TypeId} {w w':World} {g:Nat} {kv:List (α×Value)}
theorem wp_lookM2 {op:Oper} {a:Act} {K:Act→World→Prop} {Q:Exit→Act→World→Prop} (t:TypeId) (m x:Operand) (ho:op.op=.lookup t m x true) (Ky:MKey P kt f) (ht:P.underlying t=some (.map kt et)) (h:MapAt f w g kv) (hm:a.eval m=.map (some g))
 {k:α} (hx:a.eval x=f k) {z:Value} (hz: ∀w,(zeroValue et).run P w=.ok z w) {o:Option Value} (hv:findM k kv=o) (hK:K (a.put op.dst (.tuple #[o.getD z,.bool o.isSome])) w):op.wp P a w K Q:=by
 have hrun:=run_lookM Ky ht h k hz true
 rw[hv]at hrun
 unfold Oper.wp
 simp only[execOp,ho,hm,hx]
 simp[hrun,Result.andThen]
 exact hK
end
theorem wp_callF {P:Program} {op:Oper} {a:Act} {w:World} {K:Act→World→Prop} {Q:Exit→Act→World→Prop} (y x:Operand) {t:TypeId} (ho:op.op=.call {callee:=.value y,args:= #[x],argTypes:= #[t]}) {fn:Nat} {caps:Array Value} (hf:a.eval y=.func (.func fn) #[] caps) {v:Value} (hx:a.eval x=v)
 (hcf: ∀(args:Array Value) (W:World),(callFunc fn args).run P W=.ok (.enter fn args) W)
 (h:Calls P fn (#[v]++caps) w fun e w'=>match e,w' with
   | .returned v,w''=>K (a.put op.dst v) w''
   | .panicked chain,w''=>Q (.panic chain) a w''
   | .outgrown,_=>LetsOut Q):op.wp P a w K Q:=by
 unfold Oper.wp execOp
 simp only[ho,resolve,hf,hx,Deferred.ofValue,invoke,Sem.run_bind,Sem.run_pure,Result.andThen_ok,hcf,List.map_toArray,List.map_cons,List.map_nil,Oper.upon_enter]
 exact h
theorem shape_zero' (w:World):(zeroValue 97).run Tryz.prog w=.ok (.agg #[.int .i64 0,.slice none 0 0,.nilFunc,.nilFunc]) w:=by kernel_rfl
theorem fld_two (w:World) (p q:ByteArray) (x y:Int):Fld (w.alloc (.cells #[.string p,.int .i64 x,.string q,.int .i64 y] Tnd)) w.heap.size 0 [(p,x),(q,y)]:=by
 have hnd:=Blk.new w Tnd #[.string p,.int .i64 x,.string q,.int .i64 y]
 refine⟨hnd.lt,fun j p e=> ?_,fun j p e=> ?_⟩
 · match j,e with
   |0,e=>cases e;exact hnd.cell 0
   |1,e=>cases e;exact hnd.cell 2
   |j+2,e=>simp at e
 · match j,e with
   |0,e=>cases e;exact hnd.cell 1
   |1,e=>cases e;exact hnd.cell 3
   |j+2,e=>simp at e
structure RV (w:World) (six:Array Value) (wr:World):Prop where
 below:Below w.heap.size w wr
 box:Blk wr w.heap.size 27 six
 res:Blk wr (w.heap.size+1) Tmut z19
theorem RV.call {w wr w':World} {six:Array Value} (h:RV w six wr) (hb:Below wr.heap.size wr w'):RV w six w':=⟨h.below.trans (hb.mono h.below.size),h.box.below hb h.box.lt,h.res.below hb h.res.lt⟩
structure RD (w:World) (six:Array Value) (Y:Nat) (sh:Array Value) (m:Mut) (cs:List Value) (M:Nat) (wx:World):Prop where
 rv:RV w six wx
 var:Blk wx M Tmut (.int .i64 0::cs).toArray
 sh_:Blk wx Y 97 sh
 ne:w.heap.size+1<M
 neY:M≠Y
 dat:HoldsIn (fun i=>w.heap.size≤i∧i≠M∧i≠w.heap.size+1) wx (dM m) (.int .i64 (kM m)::cs)
 len:cs.length=18
 one: ∀u ∈ cs,u.oneCell'=true
theorem one_cons (k:Int) {cs:List Value} (h: ∀u ∈ cs,u.oneCell'=true): ∀u ∈ (Value.int .i64 k::cs).toArray.toList,u.oneCell'=true:=by
 intro u hu
 rcases List.mem_cons.1 hu with rfl|hu
 · rfl
 · exact h u hu
theorem over_head (v:Value) (cs:List Value):over (Value.int .i64 0::cs).toArray 0 [v]=(v::cs).toArray:=by
 simp[over]
theorem RdQ.no {r:Int×Mut} {w w':World} {c:Int} (h:r.1=c) (hc:c≠0) (hb:Below w.heap.size w w'):RdQ r w (wrongE c) w':=⟨hb,by rw[if_pos (by omega),h]⟩
theorem fit_names {S:Nat→Prop} {k:Int} {o:List (ByteArray×Val)} {w:World}:MbrPost S k o [(kArgs,0),(kName,0)] w=fun e w'=>Below w.heap.size w w'∧
 if k≠6 then e=wrongE 9 else if fitB [kArgs,kName] [] o=false then e=wrongE 10 else ∃a c,e=.returned (.slice a o.length c)∧HoldsIn (fun i=>S i∨w.heap.size≤i) w' (.row 7 (dO o)) [.slice a o.length c]:=by
 funext e w'
 unfold MbrPost
 rw[fit_args]
theorem fit_flds {S:Nat→Prop} {k:Int} {kd:Int} (h1:1≤kd) (h7:kd≤7) {o:List (ByteArray×Val)} {w:World}:MbrPost S k o (fldsK kd) w=fun e w'=>Below w.heap.size w w'∧
 if k≠6 then e=wrongE 9 else if fitB (mustN kd) (mayN kd) o=false then e=wrongE 10 else ∃a c,e=.returned (.slice a o.length c)∧HoldsIn (fun i=>S i∨w.heap.size≤i) w' (.row 7 (dO o)) [.slice a o.length c]:=by
 funext e w'
 unfold MbrPost
 rw[fit_kind h1 h7]
end Go.Proofs.YtkkbplakgldlpaaGreatDoor

namespace Go.Proofs.YtkkbplakgldlpaaGreatDoor
open Go Go.RowKit
abbrev num19 (key:ByteArray) (n:Int):Array Value:= #[.int .i64 0,.string key,.string ⟨#[]⟩,.int .i64 n,.bool false,.int .i64 0,.bool false,.int .i64 0,.string ⟨#[]⟩,.slice none 0 0,.slice none 0 0,.bool false,.int .i64 0,.bool false,.int .i64 0,.string ⟨#[]⟩,.slice none 0 0,.slice none 0 0,.slice none 0 0]
theorem FndPost.held2 {o:List (ByteArray×Val)} {key:ByteArray} {w w':World} {e:Ending} (h:FndPost o key w e w'):Below w.heap.size w w'∧ ∃la lc oa oc t l ob b,
 e=.returned (.tuple #[.agg #[.int .i64 (kindV (atO' key o)),.bool b,.int .i64 (intV' (atO' key o)),.string t,.slice la (l:List Val).length lc,.slice oa (ob:List (ByteArray×Val)).length oc],.bool (findO key o).isSome]):=by
 obtain⟨hb,k,b,n,t,l,ob,la,lc,oa,oc,hg,he,_⟩:=h.held
 have hg':atO' key o=.mk k b n t l ob:=hg
 refine⟨hb,la,lc,oa,oc,t,l,ob,b, ?_⟩
 rw[hg']
 exact he
set_option maxRecDepth 100000 in
set_option maxHeartbeats 8000000 in
theorem rinc_calls (f:Val→Int×Mut) (o:List (ByteArray×Val)) (a:Option Addr) (c:Nat) (w:World) (h:Holds w w.heap.size (.row 7 (dO o)) [.slice a o.length c]) (hl:o.length≤100000000):
 Calls Tryz.prog 73 #[.slice a o.length c] w (RdP (argsM f 3 o) w):=by
 have hI0:RB w (w.alloc (.cells z19 Tmut)) z19:=⟨(Below.refl _ _).alloc (Nat.le_refl _) _,Blk.new w _ _⟩
 obtain⟨wi,hwi⟩: ∃wi,w.alloc (.cells z19 Tmut)=wi:=⟨_,rfl⟩
 rw[hwi]at hI0
 have hF:=findV_calls o a c ⟨#[98,121]⟩ wi ((h.below hI0.below).more hI0.below.size) hl
 have hY:=fun W=>must_yes 9 W
 have hN:=fun W=>must_no 9 W
 obtain⟨RES,hRES⟩: ∃r,argsM f 3 o=r:=⟨_,rfl⟩
 rw[hRES]
 rw[argsM_inc]at hRES
 have HI0:=Lib.hid hI0
 have HF:=Lib.hid hF
 have H:=Lib.hid h
 have HY:=Lib.hid hY
 have HN:=Lib.hid hN
 clear hI0 hF h hY hN
 go_enter Tryz.func73,Tryz.ntmps73
 go_upto_region 1 with(fail)
 clear hwi
 go_wp2_with (fail)
 with_reducible refine(HF.out).mono ?_
 rintro e w2 hp
 obtain⟨hb2,la,lc,oa,oc,t,l,ob,b,rfl⟩:=hp.held2
 rw[show(⟨#[98,121]⟩:ByteArray)=kBy from rfl]
 generalize kindV (atO' kBy o)=k at hRES ⊢
 generalize intV' (atO' kBy o)=n at hRES ⊢
 generalize (findO kBy o).isSome=B
 have hI2:=(HI0.out.call hb2).call (alloc_below w2 (.cells #[.int .i64 k,.bool b,.int .i64 n,.string t,.slice la l.length lc,.slice oa ob.length oc] 27))
 have hx2:=Blk.new w2 27 #[.int .i64 k,.bool b,.int .i64 n,.string t,.slice la l.length lc,.slice oa ob.length oc]
 have hord:w.heap.size<w2.heap.size:=Nat.lt_of_lt_of_le HI0.out.res.lt hb2.size
 obtain⟨wj,hwj⟩: ∃wj,w2.alloc (.cells #[.int .i64 k,.bool b,.int .i64 n,.string t,.slice la l.length lc,.slice oa ob.length oc] 27)=wj:=⟨_,rfl⟩
 rw[hwj]at hI2 hx2
 have hP2:Below w.heap.size w wj:=hI2.below
 clear hp hb2 HI0 HF
 by_cases h4:k=3
 rotate_left
 · have e1:(k==3)=false:=by simpa using h4
   rw[if_pos h4]at hRES
   have hP:=RdP.no (r:=RES) (c:=9) (by rw[←hRES]) (by omega) hP2
   have x0:=hx2.cell 0
   have xl:=hx2.lt
   have HP:=Lib.hid hP
   clear hP
   clear h4 hP2 hI2
   go_upto_region 2 with(fail)
   clear hwj
   go_wp2_with (fail)
   with_reducible refine(HN.out _).mono ?_
   rintro e w3 ⟨rfl,rfl⟩
   go_wp2
   exact⟨rfl,HP.out⟩
 subst h4
 rw[if_neg (by simp)]at hRES
 have x0:=hx2.cell 0
 have xl:=hx2.lt
 have hT:=fun W (hB:Below wj.heap.size wj W)=>mtext_calls o a c ⟨#[107,101,121]⟩ W ((H.out.below (hP2.trans (hB.mono hP2.size))).more (hP2.trans (hB.mono hP2.size)).size) hl
 have hxc:wj.cell? ⟨w2.heap.size,2,none⟩=some (.int .i64 n):=hx2.cell 2
 have HI2:=Lib.hid hI2
 have HT:=Lib.hid hT
 have Hx2:=Lib.hid hx2
 have Hxc:=Lib.hid hxc
 have Hord:=Lib.hid hord
 clear hI2 hT hx2 hxc hord
 clear hP2
 go_upto_region 2 with(fail)
 clear hwj
 go_wp2_with (fail)
 with_reducible refine(HY.out _).mono ?_
 rintro e w3 ⟨rfl,rfl⟩
 clear x0
 go_upto_region 3 with(fail)
 refine wp_region_held_drew (S:=fun W=>W.cell? ⟨w2.heap.size,2,none⟩=some (.int .i64 n)) (by kernel_rfl) Hxc.out (fun hHeld=> ?_)
 refine wpAnyH_take (i:=0) (v:= ?_) rfl (by kernel_rfl) (by kernel_rfl) (by kernel_rfl) (fun _ _ _ h=>h) (Or.inl ⟨by kernel_rfl, ?_⟩) hHeld ?_
 rotate_left
 · intro X hSw
   first|(go_simp;done)|(go_simp;with_reducible rfl)
 try simp only[Act.put,List.getElem_toArray,List.getElem_cons_zero,List.setIfInBounds_toArray,List.set_cons_zero,List.set_cons_succ]
 refine wpAnyH_take (i:=1) (v:= ?_) rfl (by kernel_rfl) (by kernel_rfl) (by kernel_rfl) (fun _ _ _ h=>h) (Or.inl ⟨by kernel_rfl, ?_⟩) hHeld ?_
 rotate_left
 · intro X hSw
   first|(go_simp;done)|(go_simp;with_reducible rfl)
 try simp only[Act.put,List.getElem_toArray,List.setIfInBounds_toArray]
 refine wpAnyH_take (i:=2) (v:= ?_) rfl (by kernel_rfl) (by kernel_rfl) (by kernel_rfl) (fun _ _ _ h=>h) (Or.inl ⟨by kernel_rfl, ?_⟩) hHeld ?_
 rotate_left
 · intro X hSw
   first|(go_simp;done)|(go_simp;with_reducible rfl)
 try simp only[Act.put,List.getElem_toArray]
 refine wpAnyH_ready (rs:= [3]) (by kernel_rfl) (by simp) ?_
 refine AllReadyH.cons rfl (fun K hK=> ?_) AllReadyH.nil
 go_simp
 with_reducible refine(HT.out _ (Below.drew (Below.refl _ _))).mono ?_
 rintro e w4 ⟨hb4,rfl⟩
 have hbr:Below w3.heap.size w3 w4:=(Below.drew (Below.refl _ _)).trans hb4
 have hI4:=HI2.out.call hbr
 have hxc4:w4.cell? ⟨w2.heap.size,2,none⟩=some (.int .i64 n):=(Hx2.out.below hbr Hx2.out.lt).cell 2
 rw[kOf_kind,tOf_txt,show(⟨#[107,101,121]⟩:ByteArray)=kKey from rfl]
 generalize kindV (atO' kKey o)=k at hRES ⊢
 generalize txtV' (atO' kKey o)=u at hRES ⊢
 by_cases h4:k=4
 rotate_left
 · rw[if_neg h4]
   rw[if_pos h4]at hRES
   have hP:=RdP.no (r:=RES) (c:=9) (by rw[←hRES]) (by omega) hI4.below
   have HP:=Lib.hid hP
   clear hP
   clear hK hI4 hxc4 h4 hbr hb4
   go_wp2
   exact⟨rfl,HP.out⟩
 subst h4
 rw[if_pos rfl]
 rw[if_neg (by simp)]at hRES
 have HI4:=Lib.hid hI4
 have Hxc4:=Lib.hid hxc4
 have HRES:=Lib.hid hRES
 clear hI4 hxc4 hRES
 refine hK.out _ _ Hxc4.out (fun hHeld=> ?_)
 clear hK K hbr hb4
 try simp only[Act.put,List.setIfInBounds_toArray,List.set_cons_zero,List.set_cons_succ]
 refine wpAnyH_take (i:=4) (v:= ?_) rfl (by kernel_rfl) (by kernel_rfl) (by kernel_rfl) (fun _ _ _ h=>h) (Or.inl ⟨by kernel_rfl, ?_⟩) hHeld ?_
 rotate_left
 · intro X hSw
   first|(go_simp;done)|(go_simp;with_reducible rfl)
 try simp only[Act.put,List.getElem_toArray,List.setIfInBounds_toArray]
 refine wpAnyH_ready (rs:= [5]) (by kernel_rfl) (by simp) ?_
 refine AllReadyH.cons rfl (fun K hK=> ?_) AllReadyH.nil
 refine wp_store_far (cs:=z19) Tmut (.tmp 2) (.tmp 18) rfl w.heap.size 0 HI4.out.res (.agg (num19 u n)) rfl rfl (Nat.le_of_ble_eq_true rfl) (by kernel_rfl) (by simp[Value.cells,Value.oneCell']) HI4.out.below (Nat.le_refl _) ?_
 intro w5 hx5 hb5 _ hfar
 have hx6:Blk w5 w.heap.size Tmut (num19 u n):=by
  have hx:=hx5
  rw[show(Value.agg (num19 u n)).cells=num19 u n from by simp only[Value.cells],over_all z19 (num19 u n) rfl]at hx
  exact hx
 have hxc5:w5.cell? ⟨w2.heap.size,2,none⟩=some (.int .i64 n):=(World.cell?_of_block (a:=⟨w2.heap.size,2,none⟩) (hfar w2.heap.size (by have:=Hord.out;omega))).trans Hxc4.out
 clear hx5 hfar
 have Hx6:=Lib.hid hx6
 have Hb5:=Lib.hid hb5
 clear hx6 hb5
 refine hK.out _ _ hxc5 (fun hHeld=> ?_)
 clear hK K
 try simp only[Act.put]
 refine wpAnyH_done (by kernel_rfl) ?_ _
 repeat go_step
 exact bodyPost_ret (results_blk rfl rfl Hx6.out Tryz.underlying30 rfl (by kernel_rfl)) rfl (RdP.yes' HRES.out.symm Hb5.out (fresh_mut 3 _ _ _ _ _ (fresh_z6 _ _) (fresh_z6 _ _) (fresh_row0 _ _ _)))
end Go.Proofs.YtkkbplakgldlpaaGreatDoor

namespace Go.Proofs.YtkkbplakgldlpaaGreatDoor
open Go Go.RowKit
theorem over_bit11 {a0 a1 a2 a3 a4 a5 a6 a7 a8 a9 a10 a11 a12 a13 a14 a15 a16 a17 a18 x:Value}:over #[a0,a1,a2,a3,a4,a5,a6,a7,a8,a9,a10,a11,a12,a13,a14,a15,a16,a17,a18] 11 [x]= #[a0,a1,a2,a3,a4,a5,a6,a7,a8,a9,a10,x,a12,a13,a14,a15,a16,a17,a18]:=by
 simp only[over,List.setIfInBounds_toArray,List.set_cons_succ,List.set_cons_zero]
theorem over_bit4 {a0 a1 a2 a3 a4 a5 a6 a7 a8 a9 a10 a11 a12 a13 a14 a15 a16 a17 a18 x:Value}:over #[a0,a1,a2,a3,a4,a5,a6,a7,a8,a9,a10,a11,a12,a13,a14,a15,a16,a17,a18] 4 [x]= #[a0,a1,a2,a3,x,a5,a6,a7,a8,a9,a10,a11,a12,a13,a14,a15,a16,a17,a18]:=by
 simp only[over,List.setIfInBounds_toArray,List.set_cons_succ,List.set_cons_zero]
set_option maxRecDepth 100000 in
set_option maxHeartbeats 8000000 in
theorem rcas_calls (f:Val→Int×Mut) (o:List (ByteArray×Val)) (a:Option Addr) (c:Nat) (w:World) (h:Holds w w.heap.size (.row 7 (dO o)) [.slice a o.length c]) (hl:o.length≤100000000) (hb: ∀key x,findO key o=some x→x.bulk≤100000000):
 Calls Tryz.prog 114 #[.slice a o.length c] w (RdP (argsM f 4 o) w):=by
 have hI0:RB w (w.alloc (.cells z19 Tmut)) z19:=⟨(Below.refl _ _).alloc (Nat.le_refl _) _,Blk.new w _ _⟩
 obtain⟨wi,hwi⟩: ∃wi,w.alloc (.cells z19 Tmut)=wi:=⟨_,rfl⟩
 rw[hwi]at hI0
 have hT:=mtext_calls o a c ⟨#[107,101,121]⟩ wi ((h.below hI0.below).more hI0.below.size) hl
 have hz0:=hI0.below.size
 obtain⟨RES,hRES⟩: ∃r,argsM f 4 o=r:=⟨_,rfl⟩
 rw[hRES]
 rw[argsM_cas f]at hRES
 obtain⟨B,hB⟩: ∃B,(findO kIs o).isSome=B:=⟨_,rfl⟩
 obtain⟨G,hG⟩: ∃B,(findO kWas o).isSome=B:=⟨_,rfl⟩
 rw[hB,hG]at hRES
 have HI0:=Lib.hid hI0
 have HT:=Lib.hid hT
 have H:=Lib.hid h
 have Hb:=Lib.hid hb
 clear hI0 hT h hb
 go_enter Tryz.func114,Tryz.ntmps114
 go_upto_region 1 with(fail)
 clear hwi
 go_wp2_with (fail)
 with_reducible refine(HT.out).mono ?_
 rintro e w2 ⟨hb2,rfl⟩
 have hI2:=HI0.out.call hb2
 have hP2:Below w.heap.size w w2:=hI2.below
 rw[kOf_kind,tOf_txt,show(⟨#[107,101,121]⟩:ByteArray)=kKey from rfl]
 generalize kindV (atO' kKey o)=k at hRES ⊢
 generalize txtV' (atO' kKey o)=t at hRES ⊢
 by_cases h4:k=4
 rotate_left
 · rw[if_neg h4]
   rw[if_pos h4]at hRES
   have HP2:=Lib.hid hP2
   have HRES:=Lib.hid hRES
   clear hP2 hRES
   clear hb2 hI2 h4
   go_wp2
   exact⟨rfl,RdP.no (by rw[←HRES.out]) (by omega) HP2.out⟩
 subst h4
 rw[if_pos rfl]
 rw[if_neg (by simp)]at hRES
 have hsz2:w.heap.size<w2.heap.size:=hI2.res.lt
 have hI3:RC w w2.heap.size (w2.alloc (.cells (two19 t ⟨#[]⟩) Tmut)) (two19 t ⟨#[]⟩):=⟨hI2.call (alloc_below _ _),Blk.new _ _ _,hsz2⟩
 have HI2:=Lib.hid hI2
 have HI3:=Lib.hid hI3
 have HRES:=Lib.hid hRES
 clear hI2 hI3 hRES
 clear hb2 hP2
 dsimp only
 iterate 8 go_step
 refine wp_store_new Tmut (.tmp 3) (.tmp 6) rfl (cs0:=z19) (two19 t ⟨#[]⟩) rfl rfl rfl (by kernel_rfl) (by simp[Value.oneCell']) ?_
 obtain⟨wj,hwj⟩: ∃wj,w2.alloc (.cells (two19 t ⟨#[]⟩) Tmut)=wj:=⟨_,rfl⟩
 have hI4:=HI3.out
 rw[hwj]at hI4 ⊢
 have hP4:Below w.heap.size w wj:=hI4.rb.below
 have hC:=mcopied_calls o a c ⟨#[105,115]⟩ wj ((H.out.below hP4).more hP4.size) hl (Hb.out _)
 have HI4:=Lib.hid hI4
 have HC:=Lib.hid hC
 clear hI4 hC
 clear hwj HI3 hP4
 go_upto_region 2 with(fail)
 go_wp2_with (fail)
 with_reducible refine(HC.out).mono ?_
 rintro e w5 ⟨hb5,cs5,rfl,hf5⟩
 rw[show(⟨#[105,115]⟩:ByteArray)=kIs from rfl,atO'_z]at hf5
 obtain⟨b0,b1,b2,b3,la,ln,lc,oa,on,oc,rfl⟩:=six_of hf5
 have hI5:=HI4.out.call hb5
 have hge:=HI4.out.var.lt
 have HI5:=Lib.hid hI5
 have Hf5:=Lib.hid hf5
 have Hge:=Lib.hid hge
 clear hI5 hf5 hge
 have hs5:=hb5.size
 have Hs5:=Lib.hid hs5
 clear hs5
 clear hb5
 rw[hB]
 dsimp only
 iterate 14 go_step
 refine wp_store_far 27 (.tmp 12) (.tmp 10) rfl w2.heap.size 12 HI5.out.var (.agg #[.int .i64 b0,.bool b1,.int .i64 b2,.string b3,.slice la ln lc,.slice oa on oc]) rfl rfl (Nat.le_of_ble_eq_true rfl) (by kernel_rfl) (by simp[Value.cells,Value.oneCell']) HI5.out.rb.below (Nat.le_of_lt HI5.out.ne) ?_
 intro w6 hx6 hb6 hs6 hfar
 rw[show(Value.agg #[.int .i64 b0,.bool b1,.int .i64 b2,.string b3,.slice la ln lc,.slice oa on oc]).cells.toList= [.int .i64 b0,.bool b1,.int .i64 b2,.string b3,.slice la ln lc,.slice oa on oc]from by simp only[Value.cells]]at hx6
 rw[over_value]at hx6
 have hI6:=HI5.out.put hx6 hb6 hfar
 have hf6:Fresh wj.heap.size w6 (dV (atO' kIs o)) [.int .i64 b0,.bool b1,.int .i64 b2,.string b3,.slice la ln lc,.slice oa on oc]:=Hf5.out.keep (Nat.le_refl _) (by omega) fun p p1 _=>World.cell?_of_block (hfar _ (by have:=Hge.out;omega))
 have HI6:=Lib.hid hI6
 have Hf6:=Lib.hid hf6
 have Hs6:=Lib.hid hs6
 clear hI6 hf6 hs6
 clear hx6 hb6 hfar HI5
 dsimp only
 iterate 5 go_step
 refine wp_store_far 4 (.tmp 13) (.tmp 11) rfl w2.heap.size 11 HI6.out.var (.bool B) rfl rfl (Nat.le_of_ble_eq_true rfl) (by kernel_rfl) (by simp[Value.cells,Value.oneCell']) HI6.out.rb.below (Nat.le_of_lt HI6.out.ne) ?_
 intro w7 hx7 hb7 hs7 hfar
 rw[show(Value.bool B).cells.toList= [.bool B]from by simp only[Value.cells]]at hx7
 rw[over_bit11]at hx7
 have hI7:=HI6.out.put hx7 hb7 hfar
 have hf7:Fresh wj.heap.size w7 (dV (atO' kIs o)) [.int .i64 b0,.bool b1,.int .i64 b2,.string b3,.slice la ln lc,.slice oa on oc]:=Hf6.out.keep (Nat.le_refl _) (by omega) fun p p1 _=>World.cell?_of_block (hfar _ (by have:=Hge.out;omega))
 have hC2:=mcopied_calls o a c ⟨#[119,97,115]⟩ w7 ((H.out.below hb7).more hb7.size) hl (Hb.out _)
 have hge7:wj.heap.size≤w7.heap.size:=by have:=Hs6.out;have:=Hs5.out;omega
 have HI7:=Lib.hid hI7
 have Hf7:=Lib.hid hf7
 have Hs7:=Lib.hid hs7
 have HC2:=Lib.hid hC2
 have Hge7:=Lib.hid hge7
 clear hI7 hf7 hs7 hC2 hge7
 clear hx7 hb7 hfar HI6 Hf6
 dsimp only
 go_upto_region 3 with(fail)
 go_wp2_with (fail)
 with_reducible refine(HC2.out).mono ?_
 rintro e w8 ⟨hb8,cs8,rfl,hf8⟩
 rw[show(⟨#[119,97,115]⟩:ByteArray)=kWas from rfl,atO'_z]at hf8
 obtain⟨d0,d1,d2,d3,ma,mn,mc,pa,pn,pc,rfl⟩:=six_of hf8
 have hI8:=HI7.out.call hb8
 have hf8i:=Hf7.out.later hb8
 have hge8:=hb8.size
 have HI8:=Lib.hid hI8
 have Hf8:=Lib.hid hf8
 have Hf8i:=Lib.hid hf8i
 clear hI8 hf8 hf8i
 clear hb8 HI7 Hf7
 rw[hG]
 dsimp only
 iterate 14 go_step
 refine wp_store_far 27 (.tmp 19) (.tmp 17) rfl w2.heap.size 5 HI8.out.var (.agg #[.int .i64 d0,.bool d1,.int .i64 d2,.string d3,.slice ma mn mc,.slice pa pn pc]) rfl rfl (Nat.le_of_ble_eq_true rfl) (by kernel_rfl) (by simp[Value.cells,Value.oneCell']) HI8.out.rb.below (Nat.le_of_lt HI8.out.ne) ?_
 intro w9 hx9 hb9 hs9 hfar
 rw[show(Value.agg #[.int .i64 d0,.bool d1,.int .i64 d2,.string d3,.slice ma mn mc,.slice pa pn pc]).cells.toList= [.int .i64 d0,.bool d1,.int .i64 d2,.string d3,.slice ma mn mc,.slice pa pn pc]from by simp only[Value.cells]]at hx9
 rw[over_was]at hx9
 have hI9:=HI8.out.put hx9 hb9 hfar
 have hf9:Fresh w7.heap.size w9 (dV (atO' kWas o)) [.int .i64 d0,.bool d1,.int .i64 d2,.string d3,.slice ma mn mc,.slice pa pn pc]:=Hf8.out.keep (Nat.le_refl _) (by omega) fun p p1 _=>World.cell?_of_block (hfar _ (by have:=Hge.out;have:=Hge7.out;omega))
 have hf9i:Fresh wj.heap.size w9 (dV (atO' kIs o)) [.int .i64 b0,.bool b1,.int .i64 b2,.string b3,.slice la ln lc,.slice oa on oc]:=Hf8i.out.keep (Nat.le_refl _) (by omega) fun p p1 _=>World.cell?_of_block (hfar _ (by have:=Hge.out;omega))
 have HI9:=Lib.hid hI9
 have Hf9:=Lib.hid hf9
 have Hf9i:=Lib.hid hf9i
 have Hs9:=Lib.hid hs9
 clear hI9 hf9 hf9i hs9
 clear hx9 hb9 hfar HI8 Hf8 Hf8i
 dsimp only
 iterate 5 go_step
 refine wp_store_far 4 (.tmp 20) (.tmp 18) rfl w2.heap.size 4 HI9.out.var (.bool G) rfl rfl (Nat.le_of_ble_eq_true rfl) (by kernel_rfl) (by simp[Value.cells,Value.oneCell']) HI9.out.rb.below (Nat.le_of_lt HI9.out.ne) ?_
 intro wa hxa hba hsa hfar
 rw[show(Value.bool G).cells.toList= [.bool G]from by simp only[Value.cells]]at hxa
 rw[over_bit4]at hxa
 have hIa:=HI9.out.put hxa hba hfar
 have hfa:Fresh w7.heap.size wa (dV (atO' kWas o)) [.int .i64 d0,.bool d1,.int .i64 d2,.string d3,.slice ma mn mc,.slice pa pn pc]:=Hf9.out.keep (Nat.le_refl _) (by omega) fun p p1 _=>World.cell?_of_block (hfar _ (by have:=Hge.out;have:=Hge7.out;omega))
 have hfai:Fresh wj.heap.size wa (dV (atO' kIs o)) [.int .i64 b0,.bool b1,.int .i64 b2,.string b3,.slice la ln lc,.slice oa on oc]:=Hf9i.out.keep (Nat.le_refl _) (by omega) fun p p1 _=>World.cell?_of_block (hfar _ (by have:=Hge.out;omega))
 have HIa:=Lib.hid hIa
 have Hfa:=Lib.hid hfa
 have Hfai:=Lib.hid hfai
 clear hIa hfa hfai
 clear hxa hba hfar HI9 Hf9 Hf9i
 dsimp only
 go_upto_region 4 with(fail)
 iterate 2 go_step
 refine wp_load_blk Tmut (.tmp 3) rfl w2.heap.size _ HIa.out.var rfl _ Tryz.underlying30 rfl (by kernel_rfl) ?_
 iterate 2 go_step
 obtain⟨ca,hca⟩: ∃ca:Array Value, #[.int .i64 0,.string t,.string ⟨#[]⟩,.int .i64 0,.bool G,.int .i64 d0,.bool d1,.int .i64 d2,.string d3,.slice ma mn mc,.slice pa pn pc,.bool B,.int .i64 b0,.bool b1,.int .i64 b2,.string b3,.slice la ln lc,.slice oa on oc,.slice none 0 0]=ca:=⟨_,rfl⟩
 have hsc:z19.size=ca.size:=by rw[←hca];rfl
 have hcc: ∀u ∈ ca.toList,u.oneCell'=true:=by rw[←hca];simp[Value.oneCell']
 refine wp_store_far (cs:=z19) Tmut (.tmp 2) (.tmp 21) rfl w.heap.size 0 HIa.out.rb.res (.agg ca) rfl (by rw[←hca];rfl) (by simp only[Value.cells];rw[←hsc];exact Nat.le_of_ble_eq_true rfl) (by simp only[Value.cells];rw[←hsc];kernel_rfl) (by simp only[Value.cells];exact hcc) HIa.out.rb.below (Nat.le_refl _) ?_
 intro wb hxb hbb hsb hfar
 rw[show(Value.agg ca).cells=ca from by simp only[Value.cells],over_all z19 ca hsc]at hxb
 have hlo:w.heap.size<wj.heap.size:=by have:=Hge.out;have:=HIa.out.ne;omega
 have hfb:Fresh w.heap.size wb (dV (atO' kWas o)) [.int .i64 d0,.bool d1,.int .i64 d2,.string d3,.slice ma mn mc,.slice pa pn pc]:=Hfa.out.keep (by have:=Hge7.out;omega) (by omega) fun p p1 _=>World.cell?_of_block (hfar _ (by have:=Hge7.out;omega))
 have hfbi:Fresh w.heap.size wb (dV (atO' kIs o)) [.int .i64 b0,.bool b1,.int .i64 b2,.string b3,.slice la ln lc,.slice oa on oc]:=Hfai.out.keep (Nat.le_of_lt hlo) (by omega) fun p p1 _=>World.cell?_of_block (hfar _ (by omega))
 have Hxb:=Lib.hid hxb
 have Hfb:=Lib.hid hfb
 have Hfbi:=Lib.hid hfbi
 have Hbb:=Lib.hid hbb
 have Hca:=Lib.hid hca
 clear hxb hfb hfbi hbb hca
 clear hfar hsc hcc
 repeat go_step
 have hf8:=HRES.out▸RdP.yes' (m:=.mk 4 t nil0 0 G (atO' kWas o) B (atO' kIs o) []) rfl Hbb.out (fresh_mut 4 t nil0 0 G B Hfb.out Hfbi.out (fresh_row0 _ _ _))
 exact bodyPost_ret (results_blk rfl rfl Hxb.out Tryz.underlying30 rfl (by rw[←Hca.out];kernel_rfl)) rfl (by rw[←Hca.out];exact hf8)
end Go.Proofs.YtkkbplakgldlpaaGreatDoor
