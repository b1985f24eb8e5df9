/- Parts: A row of members sorted by their keys, by slices.SortFunc. Condition: no key twice. -/
import Derived.Test.YtobmaegpfbheoaaGreatDoorZShelfN
import Derived.Test.YtobmaegpfbheoaaGreatDoorZShelfS
import Derived.Shelf.SlSortCmp.WholeK
import Derived.Test.YtobmaegpfbheoaaGreatDoorKMo14
import Derived.Test.YtobmaegpfbheoaaGreatDoorKMo16
set_option maxHeartbeats 20000000
set_option maxRecDepth 100000
namespace Go.Proofs.YtobmaegpfbheoaaGreatDoor
open Go Go.RowKit
def Ab (S:Nat->Prop) (w:World) (d:D) (cs:List Value):Prop:=
 ∀w'':World,w.heap.size<=w''.heap.size->(∀p:Addr,S p.block->p.block<w.heap.size->w''.cell? p=w.cell? p)->Ai w'' w.heap.size d cs
def A6 (S:Nat->Prop) (w:World) (l:List D) (cs:List Value):Prop:=
 ∀w'':World,w.heap.size<=w''.heap.size->(∀p:Addr,S p.block->p.block<w.heap.size->w''.cell? p=w.cell? p)->Ah w'' w.heap.size l cs
theorem Ab.now {S:Nat->Prop} {w:World} {d:D} {cs:List Value} (h:Ab S w d cs):Ai w w.heap.size d cs:=h w (Nat.le_refl _) fun _ _ _=>rfl
theorem A6.now {S:Nat->Prop} {w:World} {l:List D} {cs:List Value} (h:A6 S w l cs):Ah w w.heap.size l cs:=h w (Nat.le_refl _) fun _ _ _=>rfl
theorem Ab.mono {S T:Nat->Prop} {w:World} {d:D} {cs:List Value} (h:Ab S w d cs) (hST: ∀i,i<w.heap.size->S i->T i):Ab T w d cs:=
 fun w'' h1 h2=>h w'' h1 fun p p1 p2=>h2 p (hST _ p2 p1) p2
theorem Ab.of_fresh {b:Nat} {w:World} {d:D} {cs:List Value} (h:An b w d cs):Ab (fun i=>b<=i) w d cs:=h
theorem Ab.of_old {B:Nat} {w w':World} {d:D} {cs:List Value} (h:Ai w B d cs) (hB:B<=w.heap.size) (hb:Below B w w'):Ab (fun i=>i<B) w' d cs:=fun _ _ h2=>
 (h.keep (fun p hp=>(h2 p hp (Nat.lt_of_lt_of_le hp (Nat.le_trans hB hb.size))).trans (hb.cell hp))).more (Nat.le_trans hB hb.size)
theorem Ab.later {S:Nat->Prop} {w w':World} {d:D} {cs:List Value} (h:Ab S w d cs) (hs:w.heap.size<=w'.heap.size) (hk: ∀p:Addr,S p.block->p.block<w.heap.size->w'.cell? p=w.cell? p):Ab S w' d cs:=fun w'' h1 h2=>
 (h w'' (Nat.le_trans hs h1) fun p p1 p2=>(h2 p p1 (Nat.lt_of_lt_of_le p2 hs)).trans (hk p p1 p2)).more hs
theorem Ab.below {S:Nat->Prop} {w w':World} {d:D} {cs:List Value} (h:Ab S w d cs) (hb:Below w.heap.size w w'):Ab S w' d cs:=h.later hb.size fun _ _ p2=>hb.cell p2
theorem A6.one {S:Nat->Prop} {w:World} {d:D} {cs:List Value} (h:Ab S w d cs):A6 S w [d] cs:=fun w'' h1 h2=>Ah.one (h w'' h1 h2)
theorem A6.app {S:Nat->Prop} {w:World} {l r:List D} {cs es:List Value} (h:A6 S w l cs) (k:A6 S w r es):A6 S w (l++r) (cs++es):=fun w'' h1 h2=>(h w'' h1 h2).app (k w'' h1 h2)
theorem Ab.blk {S:Nat->Prop} {w:World} {g:Nat} {t:TypeId} {cs:Array Value} {l:List D} {s n c:Nat} (h:Aj w g t cs) (hS:S g) (hs: ∀d ∈ l,d.cells=s) (hA:A6 S w l cs.toList) (hn:n=l.length):Ab S w (.row s l) [.slice (some ⟨g,0,none⟩) n c]:=by
 subst hn;intro w'' h1 h2;exact⟨_,c,rfl,hs,cs.toList,hA w'' h1 h2,.inr ⟨g,0,rfl,h.lt,fun j u hu=>by
  rw[Nat.zero_add,h2 ⟨g,j,none⟩ hS h.lt];exact(h.cell j).trans (by rw[<-Array.getElem?_toList];exact hu)⟩⟩
def Bo (S0:Nat->Prop) (b:Nat) (t:TypeId) (s:Nat) (wr:World) (l:List D) (V:Value):Prop:=
 ∃ns,wr.ownsRow b t s V l.length ns/\(∀d ∈ l,d.cells=s)/\A6 (fun i=>S0 i/\V.ownBlock≠some i) wr l ns
theorem Bo.nil (S0:Nat->Prop) (b:Nat) (t:TypeId) (s:Nat) (wr:World):Bo S0 b t s wr [] (.slice none 0 0):=⟨[],World.ownsRow_nil _ _ _ _,fun d hd=>(by cases hd),fun _ _ _=>rfl⟩
theorem Bo.base {S0:Nat->Prop} {b:Nat} {t:TypeId} {s:Nat} {wr:World} {l:List D} {V:Value} (h:Bo S0 b t s wr l V): ∀g,V.ownBlock=some g->b<=g/\g<wr.heap.size:=by
 obtain⟨ns,h1,_⟩:=h;exact h1.lt
theorem Bo.keep {S0:Nat->Prop} {b:Nat} {t:TypeId} {s:Nat} {wr w':World} {l:List D} {V:Value} (h:Bo S0 b t s wr l V) (hs:wr.heap.size<=w'.heap.size) (hk: ∀i,i<wr.heap.size->w'.heap[i]? =wr.heap[i]?):Bo S0 b t s w' l V:=by
 obtain⟨ns,h1,h2,h3⟩:=h;refine⟨ns,⟨h1.1, ?_⟩,h2,fun w'' k1 k2=>Ah.more (h3 w'' (by omega) (fun p p1 p2=>(k2 p p1 (by omega)).trans (World.cell?_of_block (hk p.block p2)))) hs⟩;rcases h1.2 with⟨rfl,h0⟩|⟨g,cap,cur,rfl,hbg,hg,h5⟩
 . exact .inl ⟨rfl,h0⟩
 . exact .inr ⟨g,cap,cur,rfl,hbg,(hk g (Array.getElem?_eq_some_iff.1 hg).1).trans hg,h5⟩
theorem Bo.below {S0:Nat->Prop} {b:Nat} {t:TypeId} {s:Nat} {wr w':World} {l:List D} {V:Value} (h:Bo S0 b t s wr l V) (hb:Below wr.heap.size wr w'):Bo S0 b t s w' l V:=h.keep hb.size fun i hi=>hb.block i hi
theorem Bo.slice {S0:Nat->Prop} {b:Nat} {t:TypeId} {s:Nat} {wr:World} {l:List D} {V:Value} (h:Bo S0 b t s wr l V): ∃a c,V=.slice a l.length c:=by
 obtain⟨ns,h1,_⟩:=h;rcases h1.2 with⟨rfl,h0⟩|⟨g,cap,cur,rfl,_⟩
 . exact⟨_,_,by rw[h0]⟩
 . exact⟨_,_,rfl⟩
theorem Bo.slice_n {S0:Nat->Prop} {b:Nat} {t:TypeId} {s n:Nat} {wr:World} {l:List D} {V:Value} (h:Bo S0 b t s wr l V) (hn:l.length=n): ∃a c,V=.slice a n c:=by
 subst hn;exact h.slice
theorem Bo.close {S0:Nat->Prop} {b:Nat} {t:TypeId} {s:Nat} {wr:World} {l:List D} {a:Option Addr} {n c:Nat} (h:Bo S0 b t s wr l (.slice a n c)):Ai wr wr.heap.size (.row s l) [.slice a n c]:=by
 obtain⟨ns,h1,h2,h3⟩:=h;have h1':=h1;rcases h1.2 with⟨e,h0⟩|⟨g,cap,cur,e,hbg,hg,hnc,_⟩
 . cases e
   have hl:l= []:=List.eq_nil_of_length_eq_zero h0;subst hl;exact⟨none,0,rfl,h2, [],rfl,.inl rfl⟩
 . cases e
   have hgl:=(Array.getElem?_eq_some_iff.1 hg).1;refine⟨_,_,rfl,h2,ns,h3.now,.inr ⟨g,0,rfl,hgl,fun j u hu=> ?_⟩⟩;have h5:=h1'.cells (g:=g) rfl j u hu
   rwa [Fw]at h5
theorem Bo.closeIn {S0:Nat->Prop} {b:Nat} {t:TypeId} {s:Nat} {wr:World} {l:List D} {a:Option Addr} {n c:Nat} (h:Bo S0 b t s wr l (.slice a n c)):Ab (fun i=>S0 i\/(Value.slice a n c).ownBlock=some i) wr (.row s l) [.slice a n c]:=by
 obtain⟨ns,h1,h2,h3⟩:=h;have h1':=h1;intro w'' k1 k2;have hA:=h3 w'' k1 fun p p1 p2=>k2 p (.inl p1.1) p2;rcases h1.2 with⟨e,h0⟩|⟨g,cap,cur,e,hbg,hg,hnc,_⟩
 . cases e
   have hl:l= []:=List.eq_nil_of_length_eq_zero h0;subst hl;exact⟨none,0,rfl,h2, [],rfl,.inl rfl⟩
 . cases e
   have hgl:=(Array.getElem?_eq_some_iff.1 hg).1;refine⟨_,_,rfl,h2,ns,hA,.inr ⟨g,0,rfl,hgl,fun j u hu=> ?_⟩⟩;have h5:=h1'.cells (g:=g) rfl j u hu;rw[Fw]at h5;exact(k2 ⟨g,0+j,none⟩ (.inr rfl) hgl).trans h5
section
variable {P:Program}
theorem W8 {t ty e:TypeId} {i:TypeInfo} {z:Value} {sz bytes:Nat} (ht:P.underlying t=some (.slice e)) (hi:P.info? e=some i) (hz:i.zero=some z) (hsize:i.size=sz) (hby:i.bytes=bytes) (hzs:z.cells.size=sz) (hsz:0<sz)
 {S0:Nat->Prop} {b:Nat} {w:World} {l:List D} {V:Value} (hrow:Bo S0 b e sz w l V) (hbw:b<=w.heap.size) {d:D} {cs:List Value} (hd:d.cells=sz) (hx:Ab (fun i=>S0 i/\V.ownBlock≠some i) w d cs)
 {B:Nat} {A:Option Addr} {c:Nat} (hr:B5 w B sz A 1 cs) (h63:l.length+1<=maxLen) (hbytes:(l.length+1)*bytes<=140737488355328):
 ∃V' w6,(Builtin.append_ #[t,t] ty #[V,.slice A 1 c]).run P w=.ok V' w6/\Bo S0 b e sz w6 (l++ [d]) V'/\w.grownBy w6 V.ownBlock/\(V'.ownBlock=V.ownBlock\/V'.ownBlock=some w.heap.size):=by
 obtain⟨ns,h1,h2,h3⟩:=hrow;obtain⟨V',w6,hrun,g1,g2,g3⟩:=Ig (P:=P) w b t ty e i z sz bytes ht hi hz hsize hby hzs hsz V l.length ns h1 B A 1 c cs hr hx.now.len.2 h63 hbytes hbw;refine⟨V',w6,hrun,⟨ns++cs,by rw[List.length_append];exact g1, ?_, ?_⟩,g2,g3⟩
 . intro x hx';rcases List.mem_append.1 hx' with hx'|hx'
   . exact h2 x hx'
   . simp only[List.mem_cons,List.not_mem_nil,or_false]at hx';rw[hx'];exact hd
 . have key: ∀p:Addr,V.ownBlock≠some p.block->p.block<w.heap.size->V'.ownBlock≠some p.block:=by
    intro p p1 p2;rcases g3 with e3|e3
    . rw[e3];exact p1
    . rw[e3];intro e4;have:=Option.some.inj e4;omega
   have hag: ∀w'':World,w6.heap.size<=w''.heap.size->(∀p:Addr,S0 p.block/\V'.ownBlock≠some p.block->p.block<w6.heap.size->w''.cell? p=w6.cell? p)-> ∀p:Addr,S0 p.block/\V.ownBlock≠some p.block->p.block<w.heap.size->w''.cell? p=w.cell? p:=by
    intro w'' k1 k2 p p1 p2;rw[k2 p ⟨p1.1,key p p1.2 p2⟩ (Nat.lt_of_lt_of_le p2 g2.size)];exact World.cell?_of_block (g2.block p.block p2 (fun e=>p1.2 e.symm))
   intro w'' k1 k2;have a1:=Ah.more (h3 w'' (Nat.le_trans g2.size k1) (hag w'' k1 k2)) g2.size;have a2:=Ai.more (hx w'' (Nat.le_trans g2.size k1) (hag w'' k1 k2)) g2.size;exact a1.snoc a2
theorem Mu {o:Oper} {a:Act} {w:World} {K:Act->World->Prop} {Q:Exit->Act->World->Prop} (s x:Operand) (t:TypeId) {e:TypeId}
 (ho:o.op=.call {callee:=.builtin .append,args:= #[s,x],argTypes:= #[t,t]}) {i:TypeInfo} {z:Value} {sz bytes:Nat} (ht:P.underlying t=some (.slice e)) (hi:P.info? e=some i) (hz:i.zero=some z) (hsize:i.size=sz) (hby:i.bytes=bytes) (hzs:z.cells.size=sz) (hsz:0<sz)
 {S0:Nat->Prop} {b:Nat} {l:List D} {V:Value} (hs:a.eval s=V) (hrow:Bo S0 b e sz w l V) (hbw:b<=w.heap.size) {d:D} {cs:List Value} (hd:d.cells=sz) (hf:Ab (fun i=>S0 i/\V.ownBlock≠some i) w d cs)
 {B:Nat} {A:Option Addr} {c:Nat} (hx:a.eval x=.slice A 1 c) (hr:B5 w B sz A 1 cs) (h63:l.length+1<=maxLen) (hbytes:(l.length+1)*bytes<=140737488355328)
 (h: ∀V' w6,Bo S0 b e sz w6 (l++ [d]) V'->w.grownBy w6 V.ownBlock->(V'.ownBlock=V.ownBlock\/V'.ownBlock=some w.heap.size)->K (a.put o.dst V') w6):o.wp P a w K Q:=by
 obtain⟨V',w6,hrun,g1,g2,g3⟩:=W8 (ty:=o.type) (c:=c) ht hi hz hsize hby hzs hsz hrow hbw hd hf hr h63 hbytes;unfold Oper.wp execOp;simp only[ho,resolve,invoke,builtin,Sem.run_bind,Sem.run_pure,Result.andThen_ok,List.map_toArray,List.map_cons,List.map_nil,hs,hx,hrun];exact h V' w6 g1 g2 g3
theorem Eg {ops:Array Oper} {rest:List Oper} {o:Oper} {a:Act} {w:World} {Q:Exit->Act->World->Prop} (hgd:o.guard=none) (s x:Operand) (t:TypeId) {e:TypeId}
 (ho:o.op=.call {callee:=.builtin .append,args:= #[s,x],argTypes:= #[t,t]}) {i:TypeInfo} {z:Value} {sz bytes:Nat} (ht:P.underlying t=some (.slice e)) (hi:P.info? e=some i) (hz:i.zero=some z) (hsize:i.size=sz) (hby:i.bytes=bytes) (hzs:z.cells.size=sz) (hsz:0<sz)
 {S0:Nat->Prop} {b:Nat} {l:List D} {V:Value} (hs:a.eval s=V) (hrow:Bo S0 b e sz w l V) (hbw:b<=w.heap.size) {d:D} {cs:List Value} (hd:d.cells=sz) (hf:Ab (fun i=>S0 i/\V.ownBlock≠some i) w d cs)
 {B:Nat} {A:Option Addr} {c:Nat} (hx:a.eval x=.slice A 1 c) (hr:B5 w B sz A 1 cs) (h63:l.length+1<=maxLen) (hbytes:(l.length+1)*bytes<=140737488355328)
 (h: ∀V' w6,Bo S0 b e sz w6 (l++ [d]) V'->w.grownBy w6 V.ownBlock->(V'.ownBlock=V.ownBlock\/V'.ownBlock=some w.heap.size)->wpList P ops Q rest (a.put o.dst V') w6):wpList P ops Q (o::rest) a w:=
 wpList_plain hgd fun _ hK=>Mu s x t ho ht hi hz hsize hby hzs hsz hs hrow hbw hd hf hx hr h63 hbytes fun V' w6 h2 h3 h4=>hK _ _ (h V' w6 h2 h3 h4)
theorem Fp {ops:Array Oper} {o:Oper} {a:Act} {w:World} {K:Act->World->Prop} {Q:Exit->Act->World->Prop} {E:Prop} (hgd:o.guard=none) (s x:Operand) (t:TypeId) {e:TypeId}
 (ho:o.op=.call {callee:=.builtin .append,args:= #[s,x],argTypes:= #[t,t]}) {i:TypeInfo} {z:Value} {sz bytes:Nat} (ht:P.underlying t=some (.slice e)) (hi:P.info? e=some i) (hz:i.zero=some z) (hsize:i.size=sz) (hby:i.bytes=bytes) (hzs:z.cells.size=sz) (hsz:0<sz)
 {S0:Nat->Prop} {b:Nat} {l:List D} {V:Value} (hs:a.eval s=V) (hrow:Bo S0 b e sz w l V) (hbw:b<=w.heap.size) {d:D} {cs:List Value} (hd:d.cells=sz) (hf:Ab (fun i=>S0 i/\V.ownBlock≠some i) w d cs)
 {B:Nat} {A:Option Addr} {c:Nat} (hx:a.eval x=.slice A 1 c) (hr:B5 w B sz A 1 cs) (h63:l.length+1<=maxLen) (hbytes:(l.length+1)*bytes<=140737488355328)
 (h: ∀V' w6,Bo S0 b e sz w6 (l++ [d]) V'->w.grownBy w6 V.ownBlock->(V'.ownBlock=V.ownBlock\/V'.ownBlock=some w.heap.size)->K (a.put o.dst V') w6):
 if Region.wanted o (yielded ops a.tmps)=true then Oper.wp P o a w K Q else E:=by
 have hw:Region.wanted o (yielded ops a.tmps)=true:=by simp[Region.wanted,hgd]
 rw[if_pos hw];exact Mu s x t ho ht hi hz hsize hby hzs hsz hs hrow hbw hd hf hx hr h63 hbytes h
end
def Akg (R g:Nat) (s:ByteArray) (w:World) (r:Rd (List UInt8)) (e:Ending) (w':World):Prop:=match r with
 | .ok a q=>e=.returned (.string ⟨a.toArray⟩)/\Bn R g s q w w'
 | .bad c q=>e=Ln c q/\w.grownBy w' (some R)
def Hs (R g:Nat) (s:ByteArray) (w:World) (r:Rd Val) (e:Ending) (w':World):Prop:=match r with
 | .ok v q=>(∃cs:List Value,e=.returned (.agg cs.toArray)/\An w.heap.size w' (dV v) cs)/\Bn R g s q w w'
 | .bad c q=>e=Ln c q/\w.grownBy w' (some R)
theorem F4 {b:Nat} {w:World} (k:Int) (c:Bool) (n:Int) (t:ByteArray):An b w (dV (.mk k c n t [] [])) [.int .i64 k,.bool c,.int .i64 n,.string t,.slice none 0 0,.slice none 0 0]:=fun w'' _ _=>by
 refine Eo _ _ ?_;simp only[Ac];exact⟨none,0,none,0,rfl,by simp,by simp⟩
theorem Aew {s:List UInt8} {p:Nat} {e:Int} {q:Nat} (hp:p<=s.length) (h:E8 s p=.bad e q):1<=e:=by
 have:=Ii hp;rw[h]at this;exact this.2.2.1
theorem Jc (R g:Nat) (s:ByteArray) (k:Nat) (w:World) (hT:Cl w) (hs:s.size<=1000000000) (hk:k<=s.size) (h:Ue w R g s k):
 Calls Tryz.prog 237 #[.pointer (some ⟨R,0,none⟩)] w (Akg R g s w (E8 s.data.toList k)):=by
 have hU:=fun(W:World) (hB:Below w.heap.size w W)=>Aex s k W (hT.below hB) hs hk;obtain⟨c0,c1,_,f1,hR⟩:=h.cells
 cases hr:E8 s.data.toList k with
 |ok a q=>
  rw[hr]at hU;simp only[Ahg]at hU;have t0:((0:Int) != 0)=false:=rfl;obtain⟨HU,H,HT,Hr⟩:=hid4 hU h hT hr;clear hU h hT hr;go_enter Tryz.func237,Tryz.ntmps237;go_wp2
  go_region_held3 (fun W=>W.cell? ⟨R,0,none⟩=some (.string s)/\W.cell? ⟨R,1,none⟩=some (.int .i64 k)) (go_keep) (first|(go_at_call 250;refine(HU.out _ (Below.drew (Below.refl _ _))).mono ?_;rintro e w1 ⟨rfl,hb1⟩;have hbr1:Below w.heap.size w w1:=(Below.drew (Below.refl _ _)).trans hb1;obtain⟨hc1,hf1⟩:=A8 hbr1))
  all_goals
   have hB:Bn R g s k w w1:=(Bn.refl H.out).below hbr1;obtain⟨d0,d1,_,d2,d3⟩:=hB.2.cells;have HB:=qz hB;clear hB;clear hc1 hf1 hb1 hbr1;go_wp2;go_ret;exact⟨rfl,HB.out.set q⟩
 |bad c q=>
  have hc1:=Aew (by rw[Am];exact hk) hr;rw[hr]at hU;simp only[Ahg]at hU;have t0:(c != 0)=true:=by rw[bne_iff_ne];omega
  have HW:=qz (fun W=>Ch (.pointer (some ⟨R,0,none⟩)) c q W);obtain⟨HU,H,HT,Hr⟩:=hid4 hU h hT hr;clear hU h hT hr;go_enter Tryz.func237,Tryz.ntmps237;go_wp2
  go_region_held3 (fun W=>W.cell? ⟨R,0,none⟩=some (.string s)/\W.cell? ⟨R,1,none⟩=some (.int .i64 k)) (go_keep) (first|(go_at_call 250;refine(HU.out _ (Below.drew (Below.refl _ _))).mono ?_;rintro e w1 ⟨rfl,hb1⟩;have hbr1:Below w.heap.size w w1:=(Below.drew (Below.refl _ _)).trans hb1;obtain⟨hc1,hf1⟩:=A8 hbr1))
  all_goals
   have hB:=qz hbr1;clear hc1 hf1 hb1 hbr1;go_wp2_with (fail);(with_reducible refine(HW.out _).mono ?_);rintro e w2 ⟨rfl,rfl⟩;exact⟨rfl,rfl,Ir _ hB.out⟩
theorem Bn.unAlloc {R g q:Nat} {s:ByteArray} {w w1:World} {o:Obj} (h:Bn R g s q (w.alloc o) w1):Bn R g s q w w1:=⟨Bj (En (World.grownBy.refl _ _) o) h.1,h.2⟩
theorem Gq {R:Option Nat} {w w1:World} {o:Obj} (h:(w.alloc o).grownBy w1 R):w.grownBy w1 R:=Bj (En (World.grownBy.refl _ _) o) h
theorem Bn.many {R g q B:Nat} {s:ByteArray} {w:World} (hB:w.heap.size<=B) (hR:R<w.heap.size): ∀(vs:List Value) (o:Nat) {w1:World},Bn R g s q w w1->Bn R g s q w (A7 w1 B o vs)
 | [],_,_,h=>h
 |v::vs,o,w1,h=>Bn.many hB hR vs (o+1) ⟨F6 h.1 ⟨B,o,none⟩ (.inr hB) v,Aj.far h.2 (by show R≠B;omega) v⟩
theorem Bn.res {R g q:Nat} {s:ByteArray} {w w1:World} {t:TypeId} {cs:Array Value} (h:Bn R g s q (w.alloc (.cells cs t)) w1) (hR:R<w.heap.size):Aj w1 w.heap.size t cs:=(Aj.new w t cs).grown h.1 (by intro e;cases e;omega)
theorem Qf {s:List UInt8} {p q:Nat} {l:List UInt8} {v v':Val} (h:Er s p l v=.ok v' q):v'=v:=by
 unfold Er at h
 split at h
 . cases h;rfl
 . cases h
theorem Wv (R g:Nat) (s:ByteArray) (k:Nat) (d:Int) (w:World) (hT:Cl w) (hs:s.size<=1000000000) (hk:k<=s.size) (h:Ue w R g s k):
 Calls Tryz.prog 213 #[.pointer (some ⟨R,0,none⟩),.int .i64 d] w (Hs R g s w ((E8 s.data.toList k).map Aev)):=by
 have hR:R<w.heap.size:=Aj.lt h;have hQ:=Jc R g s k (w.alloc (.cells Ak 42)) (hT.below (Aa _ _)) hs hk (Aj.alloc h _)
 cases hr:E8 s.data.toList k with
 |ok a q=>
  rw[hr]at hQ;simp only[Rd.map];clear hr hT h;have HQ:=qz hQ;clear hQ;go_enter Tryz.func213,Tryz.ntmps213;go_wp2_with (fail);(with_reducible refine(HQ.out).mono ?_);rintro e w1 ⟨rfl,h1⟩;have hxr:=h1.res hR;have H1':=qz h1.unAlloc;have hlt:=hxr.lt;obtain⟨c0,c1,c2,c3,c4,c5⟩:=Bd hxr;have fz:=hxr.frozen;obtain⟨Hxr,H1⟩:=hid2 hxr h1;clear hxr h1;dsimp only
  repeat go_step
  have hxf:=((((((Hxr.out.set_ 0 (.int .i64 4)).set_ 1 (.bool false)).set_ 2 (.int .i64 0)).set_ 3 (.string ⟨a.toArray⟩)).set_ 4 (.slice none 0 0)).set_ 5 (.slice none 0 0));exact bodyPost_ret (Aq rfl rfl hxf) rfl ⟨⟨_,rfl,F4 4 false 0 _⟩,Bn.many (Nat.le_refl _) hR [.int .i64 4,.bool false,.int .i64 0,.string ⟨a.toArray⟩,.slice none 0 0,.slice none 0 0] 0 H1'.out⟩
 |bad c q=>
  rw[hr]at hQ;simp only[Rd.map];clear hr hT h;have HQ:=qz hQ;clear hQ;go_enter Tryz.func213,Tryz.ntmps213;go_wp2_with (fail);(with_reducible refine(HQ.out).mono ?_);rintro e w1 ⟨rfl,h1⟩;exact⟨rfl,rfl,Gq h1⟩
theorem Abu (R g:Nat) (s:ByteArray) (k:Nat) (d:Int) (w:World) (hs:s.size<=1000000000) (hk:k<=s.size) (h:Ue w R g s k):
 Calls Tryz.prog 210 #[.pointer (some ⟨R,0,none⟩),.int .i64 d] w (Hs R g s w (Er s.data.toList k [110,117,108,108] O9)):=by
 have hR:R<w.heap.size:=Aj.lt h;have hQ:=Ol R g s ⟨#[110,117,108,108]⟩ k O9 (w.alloc (.cells Ak 42)) hs hk (by decide) (Aj.alloc h _);dsimp only at hQ
 cases hr:Er s.data.toList k [110,117,108,108] O9 with
 |ok a q=>
  obtain rfl:=Qf hr;rw[hr]at hQ;clear hr h;have HQ:=qz hQ;clear hQ;go_enter Tryz.func210,Tryz.ntmps210;go_wp2_with (fail);(with_reducible refine(HQ.out).mono ?_);rintro e w1 ⟨rfl,h1⟩;have hxr:=h1.res hR;have H1':=qz h1.unAlloc;have hlt:=hxr.lt;obtain⟨c0,c1,c2,c3,c4,c5⟩:=Bd hxr;have fz:=hxr.frozen;obtain⟨Hxr,H1⟩:=hid2 hxr h1;clear hxr h1;dsimp only
  repeat go_step
  have hxf:=((((((Hxr.out.set_ 0 (.int .i64 1)).set_ 1 (.bool false)).set_ 2 (.int .i64 0)).set_ 3 (.string ⟨#[]⟩)).set_ 4 (.slice none 0 0)).set_ 5 (.slice none 0 0));exact bodyPost_ret (Aq rfl rfl hxf) rfl ⟨⟨_,rfl,F4 1 false 0 _⟩,Bn.many (Nat.le_refl _) hR [.int .i64 1,.bool false,.int .i64 0,.string ⟨#[]⟩,.slice none 0 0,.slice none 0 0] 0 H1'.out⟩
 |bad c q=>
  rw[hr]at hQ;clear hr h;have HQ:=qz hQ;clear hQ;go_enter Tryz.func210,Tryz.ntmps210;go_wp2_with (fail);(with_reducible refine(HQ.out).mono ?_);rintro e w1 ⟨rfl,h1⟩;exact⟨rfl,rfl,Gq h1⟩
theorem Ae3 (R g:Nat) (s:ByteArray) (k:Nat) (d:Int) (w:World) (hs:s.size<=1000000000) (hk:k<=s.size) (h:Ue w R g s k):
 Calls Tryz.prog 212 #[.pointer (some ⟨R,0,none⟩),.int .i64 d] w (Hs R g s w (Er s.data.toList k [116,114,117,101] (Ki true))):=by
 have hR:R<w.heap.size:=Aj.lt h;have hQ:=Ol R g s ⟨#[116,114,117,101]⟩ k (Ki true) (w.alloc (.cells Ak 42)) hs hk (by decide) (Aj.alloc h _);dsimp only at hQ
 cases hr:Er s.data.toList k [116,114,117,101] (Ki true)with
 |ok a q=>
  obtain rfl:=Qf hr;rw[hr]at hQ;clear hr h;have HQ:=qz hQ;clear hQ;go_enter Tryz.func212,Tryz.ntmps212;go_wp2_with (fail);(with_reducible refine(HQ.out).mono ?_);rintro e w1 ⟨rfl,h1⟩;have hxr:=h1.res hR;have H1':=qz h1.unAlloc;have hlt:=hxr.lt;obtain⟨c0,c1,c2,c3,c4,c5⟩:=Bd hxr;have fz:=hxr.frozen;obtain⟨Hxr,H1⟩:=hid2 hxr h1;clear hxr h1;dsimp only
  repeat go_step
  have hxf:=((((((Hxr.out.set_ 0 (.int .i64 2)).set_ 1 (.bool true)).set_ 2 (.int .i64 0)).set_ 3 (.string ⟨#[]⟩)).set_ 4 (.slice none 0 0)).set_ 5 (.slice none 0 0));exact bodyPost_ret (Aq rfl rfl hxf) rfl ⟨⟨_,rfl,F4 2 true 0 _⟩,Bn.many (Nat.le_refl _) hR [.int .i64 2,.bool true,.int .i64 0,.string ⟨#[]⟩,.slice none 0 0,.slice none 0 0] 0 H1'.out⟩
 |bad c q=>
  rw[hr]at hQ;clear hr h;have HQ:=qz hQ;clear hQ;go_enter Tryz.func212,Tryz.ntmps212;go_wp2_with (fail);(with_reducible refine(HQ.out).mono ?_);rintro e w1 ⟨rfl,h1⟩;exact⟨rfl,rfl,Gq h1⟩
theorem Agv (R g:Nat) (s:ByteArray) (k:Nat) (d:Int) (w:World) (hs:s.size<=1000000000) (hk:k<=s.size) (h:Ue w R g s k):
 Calls Tryz.prog 211 #[.pointer (some ⟨R,0,none⟩),.int .i64 d] w (Hs R g s w (Er s.data.toList k [102,97,108,115,101] (Ki false))):=by
 have hR:R<w.heap.size:=Aj.lt h;have hQ:=Ol R g s ⟨#[102,97,108,115,101]⟩ k (Ki false) (w.alloc (.cells Ak 42)) hs hk (by decide) (Aj.alloc h _);dsimp only at hQ
 cases hr:Er s.data.toList k [102,97,108,115,101] (Ki false)with
 |ok a q=>
  obtain rfl:=Qf hr;rw[hr]at hQ;clear hr h;have HQ:=qz hQ;clear hQ;go_enter Tryz.func211,Tryz.ntmps211;go_wp2_with (fail);(with_reducible refine(HQ.out).mono ?_);rintro e w1 ⟨rfl,h1⟩;have hxr:=h1.res hR;have H1':=qz h1.unAlloc;have hlt:=hxr.lt;obtain⟨c0,c1,c2,c3,c4,c5⟩:=Bd hxr;have fz:=hxr.frozen;obtain⟨Hxr,H1⟩:=hid2 hxr h1;clear hxr h1;dsimp only
  repeat go_step
  have hxf:=((((((Hxr.out.set_ 0 (.int .i64 2)).set_ 1 (.bool false)).set_ 2 (.int .i64 0)).set_ 3 (.string ⟨#[]⟩)).set_ 4 (.slice none 0 0)).set_ 5 (.slice none 0 0));exact bodyPost_ret (Aq rfl rfl hxf) rfl ⟨⟨_,rfl,F4 2 false 0 _⟩,Bn.many (Nat.le_refl _) hR [.int .i64 2,.bool false,.int .i64 0,.string ⟨#[]⟩,.slice none 0 0,.slice none 0 0] 0 H1'.out⟩
 |bad c q=>
  rw[hr]at hQ;clear hr h;have HQ:=qz hQ;clear hQ;go_enter Tryz.func211,Tryz.ntmps211;go_wp2_with (fail);(with_reducible refine(HQ.out).mono ?_);rintro e w1 ⟨rfl,h1⟩;exact⟨rfl,rfl,Gq h1⟩
structure RdI (w0 w:World) (R g:Nat) (s:ByteArray) (k:Nat):Prop where
 below:Below w0.heap.size w0 w
 ge:w0.heap.size<=R
 rd:Ue w R g s k
 map:Ci (Value.int .u8) w g (KV R)
theorem RdI.ne {w0 w:World} {R g k:Nat} {s:ByteArray} (h:RdI w0 w R g s k):g≠R:=by
 rintro rfl;have h1:=h.rd;have h2:=h.map;unfold Ue Aj at h1;unfold Ci at h2;rw[h1]at h2;simp at h2
theorem RdI.to {w0 w w':World} {R g k k':Nat} {s:ByteArray} (h:RdI w0 w R g s k) (t:Bn R g s k' w w'):RdI w0 w' R g s k':=
 ⟨h.below.grown t.1 h.below.size fun r e=>by have:=Option.some.inj e;have:=h.ge;omega,h.ge,t.2,h.map.keep (t.1.block g h.map.lt (by intro e;exact h.ne (Option.some.inj e)))⟩
theorem RdI.later {w0 w w':World} {R g k:Nat} {s:ByteArray} (h:RdI w0 w R g s k) (t:Below w.heap.size w w'):RdI w0 w' R g s k:=
 ⟨h.below.trans (t.mono h.below.size),h.ge,Aj.below h.rd t (Aj.lt h.rd),h.map.below t h.map.lt⟩
def Ahr (w0:World) (R g:Nat) (s:ByteArray) (f:Nat):Prop:= ∀(w:World) (k:Nat) (d:Int),RdI w0 w R g s k->k<=s.size->4*(s.size - k)+1<=f->0<=d->d<=65->
    Calls Tryz.prog 170 #[.pointer (some ⟨R,0,none⟩),.int .i64 d] w (Hs R g s w (Cf f s.data.toList k d))
theorem Bn.undrew {w w1:World} {R g k:Nat} {s:ByteArray} (h:Bn R g s k w.drew w1):Bn R g s k w w1:=⟨⟨h.1.os,h.1.tape,h.1.output,h.1.size,h.1.block⟩,h.2⟩
theorem I8 {w w1:World} {R:Nat} (hR:R<w.heap.size) (h:w.grownBy w1 (some R)): ∃wm:World,wm.heap.size=w.heap.size/\(∀i,i≠R->wm.heap[i]? =w.heap[i]?)/\Below wm.heap.size wm w1:=by
 have hR1:R<w1.heap.size:=by have:=h.size;omega
 refine⟨{w with heap:=w.heap.setIfInBounds R w1.heap[R]},by simp,fun i hi=> ?_, ?_⟩
 . simp only[Array.getElem?_setIfInBounds];rw[if_neg (fun e=>hi e.symm)]
 . refine⟨h.os,h.tape,h.output,by simpa using h.size,fun i hi=> ?_⟩;simp only[Array.size_setIfInBounds]at hi;simp only[Array.getElem?_setIfInBounds];by_cases e:R=i
   . subst e;rw[if_pos rfl,if_pos hi,Array.getElem?_eq_getElem hR1]
   . rw[if_neg e];exact h.block i hi (fun e'=>e (Option.some.inj e').symm)
theorem Bn.app {w w5 w6:World} {R g k b:Nat} {s:ByteArray} {e:TypeId} {sz:Nat} {l:List D} {V:Value} {wr:World} (h:Bn R g s k w w5) (hg:w5.grownBy w6 V.ownBlock) (hr:Ej b e sz wr l V) (hb:w.heap.size<=b) (hR:R<w.heap.size):Bn R g s k w w6:=by
 have hne: ∀i,i<w.heap.size->some i≠V.ownBlock:=fun i hi e=>by have:=(hr.base i e.symm).1;omega
 exact⟨⟨hg.os.trans h.1.os,hg.tape.trans h.1.tape,hg.output.trans h.1.output,Nat.le_trans h.1.size hg.size,fun i hi hn=>(hg.block i (by have:=h.1.size;omega) (hne i hi)).trans (h.1.block i hi hn)⟩,Aj.grown h.2 hg (hne R hR)⟩
theorem Bn.setN {w w1:World} {R g k:Nat} {s:ByteArray} (h:Bn R g s k w w1) (p:Addr) (hp:w.heap.size<=p.block) (hR:R<w.heap.size) (v:Value):Bn R g s k w (w1.setCell p v):=
 ⟨F6 h.1 p (.inr hp) v,Aj.far h.2 (by omega) v⟩
theorem Eh (R g:Nat) (s:ByteArray) (k:Nat) (c:UInt8) (n:Int) (hn:(c.toNat:Int)=n) {B:Bool} (w:World) (hs:s.size<=1000000000) (hk:k<=s.size) (h:Ue w R g s k) (hB:decide (s.data.toList[Ay s.data.toList k]? =some c)=B):
 Calls Tryz.prog 238 #[.pointer (some ⟨R,0,none⟩),.int .u8 n] w fun e w'=>e=.returned (.bool B)/\Bn R g s (if B=true then Ay s.data.toList k+1 else Ay s.data.toList k) w w':=by
 subst hn;exact X3 R g s k c w hs hk h hB
structure RdL (w wr:World) (R g:Nat) (s:ByteArray) (j:Nat) (cs:Array Value):Prop where
 went:Bn R g s j w wr
 res:Aj wr w.heap.size 42 Ak
 var:Aj wr (w.heap.size+1) 42 cs
theorem RdL.to_ {w wr w':World} {R g j j':Nat} {s:ByteArray} {cs:Array Value} (h:RdL w wr R g s j cs) (hR:R<w.heap.size) (t:Bn R g s j' wr w'):RdL w w' R g s j' cs:=
 ⟨h.went.trans t,h.res.grown t.1 (by intro e;have:=Option.some.inj e;omega),h.var.grown t.1 (by intro e;have:=Option.some.inj e;omega)⟩
theorem RdL.leave {w wr:World} {R g j:Nat} {s:ByteArray} {cs:Array Value} (h:RdL w wr R g s j cs) (hR:R<w.heap.size) (a0 a1 a2 a3 a4 a5:Value):
 Aj (A7 wr w.heap.size 0 [a0,a1,a2,a3,a4,a5]) w.heap.size 42 #[a0,a1,a2,a3,a4,a5]/\Bn R g s j w (A7 wr w.heap.size 0 [a0,a1,a2,a3,a4,a5]):=
 ⟨((((((h.res.set_ 0 a0).set_ 1 a1).set_ 2 a2).set_ 3 a3).set_ 4 a4).set_ 5 a5),Bn.many (Nat.le_refl _) hR _ 0 h.went⟩
theorem Ad3 {b:Nat} {w:World} {vs:List Val} {a:Option Addr} {n c:Nat} (h:An b w (.row 6 (dL vs)) [.slice a n c]):An b w (dV (Tr vs)) [.int .i64 5,.bool false,.int .i64 0,.string ⟨#[]⟩,.slice a n c,.slice none 0 0]:=fun w'' h1 h2=>by
 simp only[Tr,Jo,dV,Ai];exact Ah.six.2 ⟨[.slice a n c], [.slice none 0 0],rfl,rfl,rfl,rfl,rfl,h w'' h1 h2,⟨none,0,rfl,by simp[dO], [],rfl,by simp[dO]⟩⟩
theorem Ad4 {b:Nat} {w:World} {o:List (ByteArray×Val)} {a:Option Addr} {n c:Nat} (h:An b w (.row 7 (dO o)) [.slice a n c]):An b w (dV (Tt o)) [.int .i64 6,.bool false,.int .i64 0,.string ⟨#[]⟩,.slice none 0 0,.slice a n c]:=fun w'' h1 h2=>by
 simp only[Tt,Jo,dV,Ai];exact Ah.six.2 ⟨[.slice none 0 0], [.slice a n c],rfl,rfl,rfl,rfl,rfl,⟨none,0,rfl,by simp[dL], [],rfl,by simp[dL]⟩,h w'' h1 h2⟩
abbrev Akh:TypeId:=288
theorem Qa:MKey Tryz.prog 9 Value.string:=Qs Tryz.underlying9
def Sk (acc:List (ByteArray×Val)):List (ByteArray×Value):=acc.map fun m=>(m.1,Value.agg #[])
theorem Ad6 (a:ByteArray) (m:ByteArray×Val) (r:List (ByteArray×Val)):O4 a (m::r)=(decide (m.1=a)||O4 a r):=rfl
theorem Sb (a:ByteArray): ∀acc:List (ByteArray×Val),C4 a (Sk acc)=if O4 a acc=true then some (.agg #[])else none
 | []=>rfl
 |m::r=>by
  have ih:=Sb a r;show(if a=m.1 then some (Value.agg #[])else C4 a (Sk r))=_;rw[Ad6];by_cases h:a=m.1
  . rw[if_pos h,decide_eq_true h.symm,Bool.true_or,if_pos rfl]
  . rw[if_neg h,ih,decide_eq_false (fun e=>h e.symm),Bool.false_or]
def Ae8 (R g G:Nat) (s:ByteArray) (acc:List (ByteArray×Val)) (w:World) (r:Rd (List UInt8)) (p:Nat) (e:Ending) (w':World):Prop:=match r with
 | .bad c q=>e=Ln c q/\w.grownBy w' (some R)
 | .ok k q=>if O4 ⟨k.toArray⟩ acc=true then e=Ln 8 p/\w.grownBy w' (some R)
   else e=.returned (.string ⟨k.toArray⟩)/\ ∃w1,Bn R g s q w w1/\w1.grownBy w' (some G)/\Ci Value.string w' G (Sk acc++ [(⟨k.toArray⟩,.agg #[])])
theorem Ci.grown {α:Type} {f:α->Value} {w w':World} {g:Nat} {kv:List (α×Value)} {r:Option Nat} (h:Ci f w g kv) (t:w.grownBy w' r) (hg:some g≠r):Ci f w' g kv:=h.keep (t.block g h.lt hg)
theorem Vn (w:World):(zeroValue 300).run Tryz.prog w=.ok (.agg #[]) w:=by kernel_rfl
theorem Zj (R g G:Nat) (s:ByteArray) (acc:List (ByteArray×Val)) (k:Nat) (w:World) (hT: ∀W,w.grownBy W (some R)->Cl W) (hs:s.size<=1000000000) (hk:k<=s.size) (h:Ue w R g s k) (hM:Ci Value.string w G (Sk acc)) (hG:G≠R):
 Calls Tryz.prog 239 #[.pointer (some ⟨R,0,none⟩),.map (some G)] w (Ae8 R g G s acc w (E8 s.data.toList (Ay s.data.toList k)) (Ay s.data.toList k)):=by
 have hS:=G0 R g s k w hs hk h;have hp:=D1 hk;generalize Ay s.data.toList k=p at hS hp ⊢;have hne:some G≠some R:=fun e=>hG (Option.some.inj e)
 cases hr:E8 s.data.toList p with
 |bad c q=>
  obtain⟨HS,HT,HM,Hr⟩:=hid4 hS hT hM hr;clear hS hT hM hr;clear h;go_enter Tryz.func239,Tryz.ntmps239;go_wp2_with (fail);(with_reducible refine(HS.out).mono ?_);rintro e w1 ⟨rfl,h1⟩;obtain⟨c0,c1,_,f1,hR⟩:=h1.2.cells;have hQ:=Jc R g s p w1 (HT.out w1 h1.1) hs hp h1.2;rw[Hr.out]at hQ;obtain⟨H1,HQ⟩:=hid2 h1 hQ;clear h1 hQ;go_wp2_with (fail);(with_reducible refine(HQ.out).mono ?_);rintro e w2 ⟨rfl,h2⟩;exact⟨rfl,rfl,Bj H1.out.1 h2⟩
 |ok kk q=>
  unfold Ae8;dsimp only;obtain⟨KK,hKK⟩: ∃K:ByteArray,(⟨kk.toArray⟩:ByteArray)=K:=⟨_,rfl⟩;rw[hKK];have hF:=Sb KK acc
  cases hh:O4 KK acc with
  |true=>
   rw[hh,if_pos rfl]at hF;simp only[if_true];obtain⟨HS,HT,HM,Hr,HF,HKK⟩:=hid6 hS hT hM hr hF hKK;clear hS hT hM hr hF hKK;clear h;go_enter Tryz.func239,Tryz.ntmps239;go_wp2_with (fail);(with_reducible refine(HS.out).mono ?_);rintro e w1 ⟨rfl,h1⟩;obtain⟨c0,c1,_,f1,hR⟩:=h1.2.cells;have hQ:=Jc R g s p w1 (HT.out w1 h1.1) hs hp h1.2;rw[Hr.out]at hQ;obtain⟨H1,HQ⟩:=hid2 h1 hQ;clear h1 hQ;go_wp2_with (fail);(with_reducible refine(HQ.out).mono ?_);rintro e w2 ⟨e1,h2⟩;rw[HKK.out]at e1;subst e1;have hM2:=(HM.out.grown H1.out.1 hne).grown h2.1 hne;have hrun:=Iv Qa Tryz.underlying288 hM2 KK Vn true;rw[HF.out]at hrun;simp only[Option.getD_some,Option.isSome_some,if_true]at hrun;have H12:=qz (Bj H1.out.1 h2.1);have HM2:=qz hM2;clear hM2;clear h2;go_wp2_with (fail);(with_reducible refine(Ch _ _ _ _).mono ?_);rintro e w3 ⟨rfl,rfl⟩;exact⟨rfl,rfl,En H12.out _⟩
  |false=>
   rw[hh,if_neg (by decide)]at hF;simp only[Bool.false_eq_true,if_false];obtain⟨HS,HT,HM,Hr,HF,HKK⟩:=hid6 hS hT hM hr hF hKK;clear hS hT hM hr hF hKK;clear h;go_enter Tryz.func239,Tryz.ntmps239;go_wp2_with (fail);(with_reducible refine(HS.out).mono ?_);rintro e w1 ⟨rfl,h1⟩;obtain⟨c0,c1,_,f1,hR⟩:=h1.2.cells;have hQ:=Jc R g s p w1 (HT.out w1 h1.1) hs hp h1.2;rw[Hr.out]at hQ;obtain⟨H1,HQ⟩:=hid2 h1 hQ;clear h1 hQ;go_wp2_with (fail);(with_reducible refine(HQ.out).mono ?_);rintro e w2 ⟨e1,h2⟩;rw[HKK.out]at e1;subst e1;have hM2:=(HM.out.grown H1.out.1 hne).grown h2.1 hne;have hrun:=Iv Qa Tryz.underlying288 hM2 KK Vn true;rw[HF.out]at hrun;simp only[Option.getD_none,Option.isSome_none,if_true]at hrun;obtain⟨w4,hrun4,hM4,hg4,_⟩:=Mp Qa Tryz.underlying288 (hM2.alloc (.cells #[] 300)) HF.out (.agg #[]);have h12:=(H1.out.trans h2).alloc (.cells #[] 300);have HG:=qz (And.intro h12 (And.intro hg4 hM4));clear h2 hM2 hM4 hg4 h12;go_wp2;go_ret;exact⟨rfl,_,HG.out.1,HG.out.2.1,HG.out.2.2⟩
theorem Ql: ∀a b:List UInt8,Lib.compareBytes a b<0 ↔ Op.bytesLess a b=true
 | [], []=>by decide
 | [],_::_=>by simp[Lib.compareBytes,Op.bytesLess]
 |_::_, []=>by simp[Lib.compareBytes,Op.bytesLess]
 |a::x,b::y=>by
  have ih:=Ql x y;have e1:Lib.compareBytes (a::x) (b::y)=if a<b then -1 else if b<a then 1 else Lib.compareBytes x y:=rfl;have e2:Op.bytesLess (a::x) (b::y)=(decide (a<b)||(a==b&&Op.bytesLess x y)):=rfl;rw[e1,e2];by_cases h:a<b
  . rw[if_pos h];simp[h]
  . rw[if_neg h];by_cases h':b<a
    . rw[if_pos h'];have hne:(a==b)=false:=by rw[beq_eq_false_iff_ne];rintro rfl;exact absurd h' h
      simp[h,hne]
    . rw[if_neg h',ih];have hab:a=b:=UInt8.toNat_inj.1 (by rw[UInt8.lt_iff_toNat_lt]at h h';omega);subst hab;simp[h]
theorem Ahv (a b:List UInt8):decide (Lib.compareBytes a b<0)=Op.bytesLess a b:=by
 rw[Bool.eq_iff_iff,decide_eq_true_iff];exact Ql a b
structure MC where
 key:ByteArray
 val:Val
 cs:List Value
 len:cs.length=6
 one: ∀v ∈ cs,v.oneCell'=true
instance:Inhabited MC:=⟨⟨Jo,O9, [.int .i64 0,.int .i64 0,.int .i64 0,.int .i64 0,.int .i64 0,.int .i64 0],rfl,by simp[Value.oneCell']⟩⟩
def MC.enc (x:MC):List Value:=.string x.key::x.cs
def MC.pair (x:MC):ByteArray×Val:=(x.key,x.val)
def cfM (x y:MC):Int:=Lib.compareBytes x.key.data.toList y.key.data.toList
theorem Aik (x y:MC):ltOf cfM x y=Ti x.key y.key:=by
 unfold ltOf cfM Ti;rw[Ahv,Lib.toList_data,Lib.toList_data]
theorem Akn:Sort.SWO (ltOf cfM) where
 irrefl x:=by rw[Aik];exact N9 _
 trans x y z:=by simp only[Aik];exact Nb
 ntrans x y z:=by
  simp only[Aik];intro h1 h2
  cases h3:Ti x.key z.key with
  |false=>rfl
  |true=>
   exfalso
   rcases Wl y.key x.key with h|h|h
   . have:=Nb h h3;rw[h2]at this;cases this
   . rw[<-h]at h3;rw[h2]at h3;cases h3
   . rw[h1]at h;cases h
theorem M9 (x:MC):x.enc.length=7:=by simp[MC.enc,x.len]
theorem Adv (x:MC): ∀v ∈ x.enc,v.oneCell'=true:=by
 intro v hv;rcases List.mem_cons.1 hv with rfl|hv
 . rfl
 . exact x.one v hv
theorem Zw {l:List Value} (h:l.length=6): ∃a b c d e f,l= [a,b,c,d,e,f]:=by
 match l,h with
 | [a,b,c,d,e,f],_=>exact⟨a,b,c,d,e,f,rfl⟩
theorem Ajl (x y:MC) (W:World):Calls Tryz.prog 241 #[.agg x.enc.toArray,.agg y.enc.toArray] W fun e w'=>e=.returned (.int .i64 (cfM x y))/\ ∃q os,w'=Sort.grow (W.drewN q) os:=by
 obtain⟨kx,vx,cx,lx,ox⟩:=x;obtain⟨ky,vy,cy,ly,oy⟩:=y;obtain⟨a0,a1,a2,a3,a4,a5,rfl⟩:=Zw lx;obtain⟨b0,b1,b2,b3,b4,b5,rfl⟩:=Zw ly;have hC:=fun W=>Tryz.strings_Compare kx ky W;have HA:=qz Sort.alloc_eq_grow;simp only[MC.enc,cfM];generalize Lib.compareBytes kx.data.toList ky.data.toList=r at hC ⊢;have n0:=ox a0 (by simp);have n1:=ox a1 (by simp);have n2:=ox a2 (by simp);have n3:=ox a3 (by simp);have n4:=ox a4 (by simp);have n5:=ox a5 (by simp);have m0:=oy b0 (by simp);have m1:=oy b1 (by simp);have m2:=oy b2 (by simp);have m3:=oy b3 (by simp);have m4:=oy b4 (by simp);have m5:=oy b5 (by simp);have HC:=qz hC;clear hC;go_enter Tryz.func241,Tryz.ntmps241;go_wp2_with (fail);(with_reducible refine(HC.out _).mono ?_);rintro e w2 ⟨rfl,rfl⟩;go_wp2;go_ret;refine⟨rfl,0, #[.cells #[.string kx,a0,a1,a2,a3,a4,a5] 74,.cells #[.string ky,b0,b1,b2,b3,b4,b5] 74], ?_⟩;rw[HA.out,HA.out,Sort.grow_grow];rfl
theorem Ac0 (k:Nat) (hk:0<k): ∀(l:List MC) (t:Nat),(∀x ∈ l,x.enc.length=k)->(l.flatMap MC.enc)[t]? =(l[t / k]?).bind fun x=>x.enc[t % k]?
 | [],t,_=>by simp
 |x::r,t,h=>by
  have hx:=h x (by simp);rw[List.flatMap_cons];by_cases ht:t<k
  . rw[List.getElem?_append_left (by omega),Nat.div_eq_of_lt ht,Nat.mod_eq_of_lt ht];simp
  . rw[List.getElem?_append_right (by omega),hx,Ac0 k hk r (t - k) (fun y hy=>h y (by simp[hy]))];have h1:t / k=(t - k) / k+1:=by rw[Nat.div_eq_sub_div hk (by omega)]
    have h2:t % k=(t - k) % k:=Nat.mod_eq_sub_mod (by omega);rw[h1,h2,List.getElem?_cons_succ]
theorem N7: ∀l:List MC,(l.flatMap MC.enc).length=l.length*7
 | []=>rfl
 |x::r=>by rw[List.flatMap_cons,List.length_append,N7 r,M9,List.length_cons];omega
theorem Yg (l:List MC):Sort.flatK MC.enc 7 l.toArray=(l.flatMap MC.enc).toArray:=by
 apply Array.ext
 . rw[Sort.size_flatK,List.size_toArray,List.size_toArray,N7]
 . intro t h1 h2;rw[Sort.size_flatK,List.size_toArray]at h1;have e1:=Sort.get_flatK MC.enc 7 l.toArray t (by simpa using h1);have e2:=Ac0 7 (by decide) l t (fun x _=>M9 x);have hd:t / 7<l.length:=by omega
   have hm:t % 7<(l[t / 7]).enc.length:=by rw[M9];omega
   rw[List.getElem?_eq_getElem hd,Option.bind_some,List.getElem?_eq_getElem hm]at e2;have e3:(l.flatMap MC.enc)[t]'(by simpa using h2)=(l[t / 7]).enc[t % 7]:=by
    rw[List.getElem?_eq_getElem (by simpa using h2)]at e2;exact Option.some.inj e2
   rw[getElem!_pos _ t (by rw[Sort.size_flatK];simpa using h1)]at e1;rw[e1,tk1,e3];have e4:(l.toArray)[t / 7]! =l[t / 7]:=by rw[getElem!_pos _ _ (by simpa using hd)];simp
   rw[e4,getElem!_pos (l[t / 7]).enc (t % 7) hm]
theorem X0 {F:World->Prop} {B:Nat}: ∀(acc:List (ByteArray×Val)) (ns:List Value),(∃w,F w)->(∀w'',F w''->Ah w'' B (dO acc) ns)->
 ∃d:List MC,d.map MC.pair=acc/\ns=d.flatMap MC.enc/\ ∀w'',F w''-> ∀x ∈ d,Ai w'' B (dP x.pair) x.enc
 | [],ns,⟨w,hw⟩,h=>⟨[],rfl,h w hw,by simp⟩
 |m::r,ns,⟨w,hw⟩,h=>by
  have h0:=h w hw;simp only[dO,Ah]at h0;obtain⟨c1,c2,rfl,h1,h2⟩:=h0;have l1:=h1.len;rw[Cv]at l1;have h1':=h1;obtain⟨k,v⟩:=m;simp only[dP,Ai,Ah]at h1';obtain⟨e1,e2,rfl,⟨rfl,_⟩,e3,e4,rfl,hV,rfl⟩:=h1';rw[List.append_nil]at*
  have l6:e3.length=6:=by have:=l1.1;simp at this;omega
  have key: ∀w'',F w''->Ai w'' B (dP (k,v)) (.string k::e3)/\Ah w'' B (dO r) c2:=by
   intro w'' hw'';have h3:=h w'' hw'';simp only[dO,Ah]at h3;obtain⟨f1,f2,e,g1,g2⟩:=h3;have l2:=g1.len.1;rw[Cv]at l2;obtain⟨rfl,rfl⟩:=List.append_inj e (by rw[l2];simpa using l6);exact⟨g1,g2⟩
  obtain⟨d,d1,d2,d3⟩:=X0 r c2 ⟨w,hw⟩ (fun w'' hw''=>(key w'' hw'').2);refine⟨⟨k,v,e3,l6,fun u hu=>l1.2 u (by simp[hu])⟩::d,by simp[MC.pair,d1],by simp[MC.enc,d2],fun w'' hw'' x hx=> ?_⟩;rcases List.mem_cons.1 hx with rfl|hx
  . exact(key w'' hw'').1
  . exact d3 w'' hw'' x hx
theorem Mj {w:World} {B:Nat}: ∀(d:List MC),(∀x ∈ d,Ai w B (dP x.pair) x.enc)->Ah w B (dO (d.map MC.pair)) (d.flatMap MC.enc)
 | [],_=>rfl
 |x::r,h=>by
  simp only[List.map_cons,dO,List.flatMap_cons,Ah];exact⟨x.enc,_,rfl,h x (by simp),Mj r (fun y hy=>h y (by simp[hy]))⟩
theorem Xe {d d':List MC} (hp:d'.Perm d) (hn:((d.map MC.pair).map (·.1)).Nodup) (hs: ∀i j,(hij:i<j)->(h:j<d'.length)->Ti (d'[j]).key (d'[i]'(by omega)).key=false):d'.map MC.pair=Kn (d.map MC.pair):=by
 obtain⟨_,s2,s3⟩:=S6 hn;refine Rx ?_ s2 ((hp.map MC.pair).trans s3.symm);have hn':((d'.map MC.pair).map (·.1)).Nodup:=(((hp.map MC.pair).map (·.1)).nodup_iff).2 hn;unfold Rc;rw[List.pairwise_iff_getElem];intro i j hi hj hij;simp only[List.length_map]at hi hj;simp only[List.getElem_map,MC.pair];rcases Wl (d'[i]).key (d'[j]).key with h|h|h
 . exact h
 . rw[List.map_map,List.nodup_iff_pairwise_ne,List.pairwise_iff_getElem]at hn';exact absurd (by rw[List.getElem_map,List.getElem_map];exact h) (hn' i j (by simpa using hi) (by simpa using hj) hij)
 . rw[hs i j hij hj]at h;cases h
theorem Ag4 {w:World} {g n:Nat} {os:Array Obj} {cur F:Array Value} {e:TypeId} {fr:Nat×Nat} (hb:w.heap[g]? =some (.cells cur e fr)):
 (Sort.grow (Sort.putRow id (Sort.ahead w n) g 0 F) os).heap[g]? =some (.cells (Sort.putCells id 0 F cur) e fr):=by
 have hg:g<w.heap.size:=(Array.getElem?_eq_some_iff.1 hb).1;rw[Sort.heap_grow_old _ _ (by simpa using hg)];simp[Sort.putRow,Sort.mapBlock,Sort.ahead,Array.getElem?_modify,hb,Sort.onCells]
theorem Zg {w:World} {g n:Nat} {os:Array Obj} (F:Array Value):w.grownBy (Sort.grow (Sort.putRow id (Sort.ahead w n) g 0 F) os) (some g):=by
 refine⟨rfl,rfl,rfl,by simp,fun k hk hne=> ?_⟩;rw[Sort.heap_grow_old _ _ (by simpa using hk)];have:g≠k:=fun e=>hne (by rw[e]);simp[Sort.putRow,Sort.mapBlock,Sort.ahead,Array.getElem?_modify,this]
theorem T9 {b:Nat} {w:World} {acc:List (ByteArray×Val)} {V:Value} (hr:Ej b 74 7 w (dO acc) V) (hb:b<=w.heap.size) (hn:(acc.map (·.1)).Nodup) (hlen:acc.length<=1000000000):
 Calls Tryz.prog 240 #[V,.func (.func 241) #[] #[]] w fun e w'=>e=.returned (.tuple #[])/\w.grownBy w' V.ownBlock/\An b w' (.row 7 (dO (Kn acc))) [V]:=by
 have hr0:=hr;obtain⟨ns,h1,h2,h3⟩:=hr;rcases h1.2 with⟨rfl,h0⟩|⟨g,cap,cur,rfl,hbg,hg,hnc,_,hsz,htk⟩
 . have hl:acc= []:=by rw[Dg]at h0;exact List.eq_nil_of_length_eq_zero h0
   subst hl;refine(AnyF.slices_SortFunc_none Tryz.sortFunc none 0 (.func (.func 241) #[] #[]) w).mono ?_;rintro e w' ⟨rfl,rfl⟩;exact⟨rfl,World.grownBy.refl _ _,fun _ _ _=>⟨none,0,rfl,by simp[Kn,Ez,dO], [],rfl,by simp[Kn,Ez,dO]⟩⟩
 . have hgl:=(Array.getElem?_eq_some_iff.1 hg).1;obtain⟨d,rfl,rfl,d3⟩:=X0 (F:=fun w''=>w.heap.size<=w''.heap.size/\ ∀p:Addr,b<=p.block->p.block<w.heap.size->(Value.slice (some ⟨g,0,none⟩) (dO acc).length cap).ownBlock≠some p.block->w''.cell? p=w.cell? p) acc ns ⟨w,Nat.le_refl _,fun _ _ _ _=>rfl⟩ (fun w'' hw=>h3 w'' hw.1 hw.2);have hdl:(dO (d.map MC.pair)).length=d.toArray.size:=by rw[Dg];simp
   have hH:Sort.HoldsK MC.enc 7 w g 0 d.toArray:=by
    unfold Sort.HoldsK;rw[Yg];intro j hj;have hj':j<(d.flatMap MC.enc).length:=by simpa using hj
    have h5:=h1.cells (g:=g) rfl j ((d.flatMap MC.enc)[j]) (List.getElem?_eq_getElem hj');rw[Fw]at h5;rw[getElem!_pos _ j hj];exact⟨h5,(show Aj w g 74 cur from hg).frozen _⟩
   have eg: ∀args w,(callFunc 241 args).run Tryz.prog w=.ok (.enter 241 args) w:=enters_of Tryz.func241 (by kernel_rfl) rfl;have hC:CmpLays Tryz.prog 241 #[] MC.enc 7 cfM g 0 d.toArray.size w:=fun m os dk _ x y=>Ajl x y _;have hS:=AnyQ.slices_SortFunc Tryz.sortFunc 7 (fun w=>by kernel_rfl) (fun w=>by kernel_rfl) MC.enc M9 Adv cfM Akn 241 #[] g 0 cap d.toArray w eg hC hH hgl (by simp at hlen ⊢;omega);rw[hdl];refine hS.mono ?_;rintro e w' ⟨rfl,d',n,os,hp,hso,rfl⟩;obtain⟨p1,_,p3⟩:=hp;rw[Array.extract_size,<-p1,Array.extract_size]at p3;have hpe:d'.toList.Perm d:=by simpa using p3
   have hsp:=Xe hpe hn (fun i j hij hj=>by
    have:=hso i j (Nat.zero_le _) hij (by rw[<-p1];simpa using hj);rw[Aik,getElem!_pos d' j (by simpa using hj),getElem!_pos d' i (by have:j<d'.size:=(by simpa using hj);omega)]at this;simpa using this)
   have hF:Sort.flatK MC.enc 7 d'=(d'.toList.flatMap MC.enc).toArray:=by rw[<-Yg]
   have hgb:w.grownBy (sortWorldK MC.enc 7 w g 0 n d' os) (some g):=Zg _;refine⟨rfl,hgb,fun w'' k1 k2=> ?_⟩;have hsl:(Kn (d.map MC.pair)).length=d.toArray.size:=by rw[<-hsp,List.length_map,Array.length_toList,p1]
   refine⟨_,cap,by rw[Dg,hsl],Cu _,d'.toList.flatMap MC.enc, ?_,.inr ⟨g,0,rfl,Nat.lt_of_lt_of_le hgl hgb.size,fun j u hu=> ?_⟩⟩
   . rw[<-hsp];refine Mj _ fun x hx=> ?_;have hxd:x ∈ d:=hpe.mem_iff.1 hx;refine Ai.more (d3 w'' ⟨Nat.le_trans hgb.size k1,fun p q1 q2 q3=> ?_⟩ x hxd) hgb.size;exact(k2 p q1 (Nat.lt_of_lt_of_le q2 hgb.size)).trans (World.cell?_of_block (hgb.block p.block q2 (fun e=>q3 e.symm)))
   . rw[Nat.zero_add];have hj:j<(d'.toList.flatMap MC.enc).length:=(List.getElem?_eq_some_iff.1 hu).1;have hjs:j<cur.size:=by
      rw[N7,Array.length_toList,p1]at hj;rw[hsz];have:d.toArray.size<=cap:=by rw[<-hdl];exact hnc
      have:=Nat.mul_le_mul_right 7 this;omega
     refine(k2 ⟨g,j,none⟩ hbg (Nat.lt_of_lt_of_le hgl hgb.size)).trans ?_;have hh:=Ag4 (n:=n) (os:=os) (F:=Sort.flatK MC.enc 7 d') hg;have hc:=(show Aj (Sort.grow (Sort.putRow id (Sort.ahead w n) g 0 (Sort.flatK MC.enc 7 d')) os) g 74 _ from hh).cell j;refine hc.trans ?_;rw[hF];have hjl:j<(d'.toList.map fun a=>a.enc.length).sum:=by rw[<-List.length_flatMap];exact hj
     simp[Sort.putCells,hjs,hjl];exact(List.getElem?_eq_some_iff.1 hu).2
end Go.Proofs.YtobmaegpfbheoaaGreatDoor
