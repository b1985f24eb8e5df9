/- Parts: Maps cell by cell, whatever their elements: an entry stored, an entry looked up. Plain. No condition. -/
import Derived.Test.YtdbejcbbhomdbaaGreatDoorZPtShelf
import Derived.Lib.SmallJoins
import Derived.RangeFuncNested
import Derived.RangeFuncBound
import Derived.RangeFuncCalls
import Derived.RangeFuncLeaves
import Derived.OwnWalkIn
import Derived.TacticsInMore
import Derived.Maps.OwnSet
import Derived.Test.YtdbejcbbhomdbaaGreatDoorKPt1
import Derived.Test.YtdbejcbbhomdbaaGreatDoorKPt2
set_option maxHeartbeats 20000000
namespace Go.Proofs.YtdbejcbbhomdbaaGreatDoor
open Go Go.RowKit
def Ac (S:Nat->Prop) (w:World) (d:D) (cs:List Value):Prop:=
 ∀w'':World,w.heap.size<=w''.heap.size->(∀p:Addr,S p.block->p.block<w.heap.size->w''.cell? p=w.cell? p)->Ae w'' w.heap.size d cs
def Ax (S:Nat->Prop) (w:World) (l:List D) (cs:List Value):Prop:=
 ∀w'':World,w.heap.size<=w''.heap.size->(∀p:Addr,S p.block->p.block<w.heap.size->w''.cell? p=w.cell? p)->Af w'' w.heap.size l cs
theorem Ac.now {S:Nat->Prop} {w:World} {d:D} {cs:List Value} (h:Ac S w d cs):Ae w w.heap.size d cs:=h w (Nat.le_refl _) fun _ _ _=>rfl
theorem Ax.now {S:Nat->Prop} {w:World} {l:List D} {cs:List Value} (h:Ax S w l cs):Af w w.heap.size l cs:=h w (Nat.le_refl _) fun _ _ _=>rfl
theorem Ac.mono {S T:Nat->Prop} {w:World} {d:D} {cs:List Value} (h:Ac S w d cs) (hST: ∀i,i<w.heap.size->S i->T i):Ac T w d cs:=
 fun w'' h1 h2=>h w'' h1 fun p p1 p2=>h2 p (hST _ p2 p1) p2
theorem Ac.of_old {B:Nat} {w w':World} {d:D} {cs:List Value} (h:Ae w B d cs) (hB:B<=w.heap.size) (hb:Below B w w'):Ac (fun i=>i<B) w' d cs:=fun _ _ h2=>
 (h.keep (fun p hp=>(h2 p hp (Nat.lt_of_lt_of_le hp (Nat.le_trans hB hb.size))).trans (hb.cell hp))).more (Nat.le_trans hB hb.size)
theorem Ac.later {S:Nat->Prop} {w w':World} {d:D} {cs:List Value} (h:Ac S w d cs) (hs:w.heap.size<=w'.heap.size) (hk: ∀p:Addr,S p.block->p.block<w.heap.size->w'.cell? p=w.cell? p):Ac S w' d cs:=fun w'' h1 h2=>
 (h w'' (Nat.le_trans hs h1) fun p p1 p2=>(h2 p p1 (Nat.lt_of_lt_of_le p2 hs)).trans (hk p p1 p2)).more hs
theorem Ac.below {S:Nat->Prop} {w w':World} {d:D} {cs:List Value} (h:Ac S w d cs) (hb:Below w.heap.size w w'):Ac S w' d cs:=h.later hb.size fun _ _ p2=>hb.cell p2
theorem Ax.one {S:Nat->Prop} {w:World} {d:D} {cs:List Value} (h:Ac S w d cs):Ax S w [d] cs:=fun w'' h1 h2=>Af.one (h w'' h1 h2)
theorem Ax.app {S:Nat->Prop} {w:World} {l r:List D} {cs es:List Value} (h:Ax S w l cs) (k:Ax S w r es):Ax S w (l++r) (cs++es):=fun w'' h1 h2=>(h w'' h1 h2).app (k w'' h1 h2)
theorem Ac.blk {S:Nat->Prop} {w:World} {g:Nat} {t:TypeId} {cs:Array Value} {l:List D} {s n c:Nat} (h:Aj w g t cs) (hS:S g) (hs: ∀d ∈ l,d.cells=s) (hA:Ax S w l cs.toList) (hn:n=l.length):Ac S w (.row s l) [.slice (some ⟨g,0,none⟩) n c]:=by
 subst hn;intro w'' h1 h2;exact⟨_,c,rfl,hs,cs.toList,hA w'' h1 h2,.inr ⟨g,0,rfl,h.lt,fun j u hu=>by
  rw[Nat.zero_add,h2 ⟨g,j,none⟩ hS h.lt];exact(h.cell j).trans (by rw[<-Array.getElem?_toList];exact hu)⟩⟩
def As (S0:Nat->Prop) (b:Nat) (t:TypeId) (s:Nat) (wr:World) (l:List D) (V:Value):Prop:=
 ∃ns,wr.ownsRow b t s V l.length ns/\(∀d ∈ l,d.cells=s)/\Ax (fun i=>S0 i/\V.ownBlock≠some i) wr l ns
theorem As.nil (S0:Nat->Prop) (b:Nat) (t:TypeId) (s:Nat) (wr:World):As S0 b t s wr [] (.slice none 0 0):=⟨[],World.ownsRow_nil _ _ _ _,fun d hd=>(by cases hd),fun _ _ _=>rfl⟩
theorem As.base {S0:Nat->Prop} {b:Nat} {t:TypeId} {s:Nat} {wr:World} {l:List D} {V:Value} (h:As S0 b t s wr l V): ∀g,V.ownBlock=some g->b<=g/\g<wr.heap.size:=by
 obtain⟨ns,h1,_⟩:=h;exact h1.lt
theorem As.keep {S0:Nat->Prop} {b:Nat} {t:TypeId} {s:Nat} {wr w':World} {l:List D} {V:Value} (h:As S0 b t s wr l V) (hs:wr.heap.size<=w'.heap.size) (hk: ∀i,i<wr.heap.size->w'.heap[i]? =wr.heap[i]?):As S0 b t s w' l V:=by
 obtain⟨ns,h1,h2,h3⟩:=h;refine⟨ns,⟨h1.1, ?_⟩,h2,fun w'' k1 k2=>Af.more (h3 w'' (by omega) (fun p p1 p2=>(k2 p p1 (by omega)).trans (World.cell?_of_block (hk p.block p2)))) hs⟩;rcases h1.2 with⟨rfl,h0⟩|⟨g,cap,cur,rfl,hbg,hg,h5⟩
 . exact .inl ⟨rfl,h0⟩
 . exact .inr ⟨g,cap,cur,rfl,hbg,(hk g (Array.getElem?_eq_some_iff.1 hg).1).trans hg,h5⟩
theorem As.below {S0:Nat->Prop} {b:Nat} {t:TypeId} {s:Nat} {wr w':World} {l:List D} {V:Value} (h:As S0 b t s wr l V) (hb:Below wr.heap.size wr w'):As S0 b t s w' l V:=h.keep hb.size fun i hi=>hb.block i hi
theorem As.slice {S0:Nat->Prop} {b:Nat} {t:TypeId} {s:Nat} {wr:World} {l:List D} {V:Value} (h:As S0 b t s wr l V): ∃a c,V=.slice a l.length c:=by
 obtain⟨ns,h1,_⟩:=h;rcases h1.2 with⟨rfl,h0⟩|⟨g,cap,cur,rfl,_⟩
 . exact⟨_,_,by rw[h0]⟩
 . exact⟨_,_,rfl⟩
theorem As.slice_n {S0:Nat->Prop} {b:Nat} {t:TypeId} {s n:Nat} {wr:World} {l:List D} {V:Value} (h:As S0 b t s wr l V) (hn:l.length=n): ∃a c,V=.slice a n c:=by
 subst hn;exact h.slice
theorem As.close {S0:Nat->Prop} {b:Nat} {t:TypeId} {s:Nat} {wr:World} {l:List D} {a:Option Addr} {n c:Nat} (h:As S0 b t s wr l (.slice a n c)):Ae wr wr.heap.size (.row s l) [.slice a n c]:=by
 obtain⟨ns,h1,h2,h3⟩:=h;have h1':=h1;rcases h1.2 with⟨e,h0⟩|⟨g,cap,cur,e,hbg,hg,hnc,_⟩
 . cases e
   have hl:l= []:=List.eq_nil_of_length_eq_zero h0;subst hl;exact⟨none,0,rfl,h2, [],rfl,.inl rfl⟩
 . cases e
   have hgl:=(Array.getElem?_eq_some_iff.1 hg).1;refine⟨_,_,rfl,h2,ns,h3.now,.inr ⟨g,0,rfl,hgl,fun j u hu=> ?_⟩⟩;have h5:=h1'.cells (g:=g) rfl j u hu
   rwa [Bi]at h5
theorem As.closeIn {S0:Nat->Prop} {b:Nat} {t:TypeId} {s:Nat} {wr:World} {l:List D} {a:Option Addr} {n c:Nat} (h:As S0 b t s wr l (.slice a n c)):Ac (fun i=>S0 i\/(Value.slice a n c).ownBlock=some i) wr (.row s l) [.slice a n c]:=by
 obtain⟨ns,h1,h2,h3⟩:=h;have h1':=h1;intro w'' k1 k2;have hA:=h3 w'' k1 fun p p1 p2=>k2 p (.inl p1.1) p2;rcases h1.2 with⟨e,h0⟩|⟨g,cap,cur,e,hbg,hg,hnc,_⟩
 . cases e
   have hl:l= []:=List.eq_nil_of_length_eq_zero h0;subst hl;exact⟨none,0,rfl,h2, [],rfl,.inl rfl⟩
 . cases e
   have hgl:=(Array.getElem?_eq_some_iff.1 hg).1;refine⟨_,_,rfl,h2,ns,hA,.inr ⟨g,0,rfl,hgl,fun j u hu=> ?_⟩⟩;have h5:=h1'.cells (g:=g) rfl j u hu;rw[Bi]at h5;exact(k2 ⟨g,0+j,none⟩ (.inr rfl) hgl).trans h5
section
variable {P:Program}
theorem I7 {t ty e:TypeId} {i:TypeInfo} {z:Value} {sz bytes:Nat} (ht:P.underlying t=some (.slice e)) (hi:P.info? e=some i) (hz:i.zero=some z) (hsize:i.size=sz) (hby:i.bytes=bytes) (hzs:z.cells.size=sz) (hsz:0<sz)
 {S0:Nat->Prop} {b:Nat} {w:World} {l:List D} {V:Value} (hrow:As S0 b e sz w l V) (hbw:b<=w.heap.size) {d:D} {cs:List Value} (hd:d.cells=sz) (hx:Ac (fun i=>S0 i/\V.ownBlock≠some i) w d cs)
 {B:Nat} {A:Option Addr} {c:Nat} (hr:Bo w B sz A 1 cs) (h63:l.length+1<=maxLen) (hbytes:(l.length+1)*bytes<=140737488355328):
 ∃V' w6,(Builtin.append_ #[t,t] ty #[V,.slice A 1 c]).run P w=.ok V' w6/\As S0 b e sz w6 (l++ [d]) V'/\w.grownBy w6 V.ownBlock/\(V'.ownBlock=V.ownBlock\/V'.ownBlock=some w.heap.size):=by
 obtain⟨ns,h1,h2,h3⟩:=hrow;obtain⟨V',w6,hrun,g1,g2,g3⟩:=E5 (P:=P) w b t ty e i z sz bytes ht hi hz hsize hby hzs hsz V l.length ns h1 B A 1 c cs hr hx.now.len.2 h63 hbytes hbw;refine⟨V',w6,hrun,⟨ns++cs,by rw[List.length_append];exact g1, ?_, ?_⟩,g2,g3⟩
 . intro x hx';rcases List.mem_append.1 hx' with hx'|hx'
   . exact h2 x hx'
   . simp only[List.mem_cons,List.not_mem_nil,or_false]at hx';rw[hx'];exact hd
 . have key: ∀p:Addr,V.ownBlock≠some p.block->p.block<w.heap.size->V'.ownBlock≠some p.block:=by
    intro p p1 p2;rcases g3 with e3|e3
    . rw[e3];exact p1
    . rw[e3];intro e4;have:=Option.some.inj e4;omega
   have hag: ∀w'':World,w6.heap.size<=w''.heap.size->(∀p:Addr,S0 p.block/\V'.ownBlock≠some p.block->p.block<w6.heap.size->w''.cell? p=w6.cell? p)-> ∀p:Addr,S0 p.block/\V.ownBlock≠some p.block->p.block<w.heap.size->w''.cell? p=w.cell? p:=by
    intro w'' k1 k2 p p1 p2;rw[k2 p ⟨p1.1,key p p1.2 p2⟩ (Nat.lt_of_lt_of_le p2 g2.size)];exact World.cell?_of_block (g2.block p.block p2 (fun e=>p1.2 e.symm))
   intro w'' k1 k2;have a1:=Af.more (h3 w'' (Nat.le_trans g2.size k1) (hag w'' k1 k2)) g2.size;have a2:=Ae.more (hx w'' (Nat.le_trans g2.size k1) (hag w'' k1 k2)) g2.size;exact a1.snoc a2
theorem N8 {o:Oper} {a:Act} {w:World} {K:Act->World->Prop} {Q:Exit->Act->World->Prop} (s x:Operand) (t:TypeId) {e:TypeId}
 (ho:o.op=.call {callee:=.builtin .append,args:= #[s,x],argTypes:= #[t,t]}) {i:TypeInfo} {z:Value} {sz bytes:Nat} (ht:P.underlying t=some (.slice e)) (hi:P.info? e=some i) (hz:i.zero=some z) (hsize:i.size=sz) (hby:i.bytes=bytes) (hzs:z.cells.size=sz) (hsz:0<sz)
 {S0:Nat->Prop} {b:Nat} {l:List D} {V:Value} (hs:a.eval s=V) (hrow:As S0 b e sz w l V) (hbw:b<=w.heap.size) {d:D} {cs:List Value} (hd:d.cells=sz) (hf:Ac (fun i=>S0 i/\V.ownBlock≠some i) w d cs)
 {B:Nat} {A:Option Addr} {c:Nat} (hx:a.eval x=.slice A 1 c) (hr:Bo w B sz A 1 cs) (h63:l.length+1<=maxLen) (hbytes:(l.length+1)*bytes<=140737488355328)
 (h: ∀V' w6,As S0 b e sz w6 (l++ [d]) V'->w.grownBy w6 V.ownBlock->(V'.ownBlock=V.ownBlock\/V'.ownBlock=some w.heap.size)->K (a.put o.dst V') w6):o.wp P a w K Q:=by
 obtain⟨V',w6,hrun,g1,g2,g3⟩:=I7 (ty:=o.type) (c:=c) ht hi hz hsize hby hzs hsz hrow hbw hd hf hr h63 hbytes;unfold Oper.wp execOp;simp only[ho,resolve,invoke,builtin,Sem.run_bind,Sem.run_pure,Result.andThen_ok,List.map_toArray,List.map_cons,List.map_nil,hs,hx,hrun];exact h V' w6 g1 g2 g3
theorem Ej {ops:Array Oper} {rest:List Oper} {o:Oper} {a:Act} {w:World} {Q:Exit->Act->World->Prop} (hgd:o.guard=none) (s x:Operand) (t:TypeId) {e:TypeId}
 (ho:o.op=.call {callee:=.builtin .append,args:= #[s,x],argTypes:= #[t,t]}) {i:TypeInfo} {z:Value} {sz bytes:Nat} (ht:P.underlying t=some (.slice e)) (hi:P.info? e=some i) (hz:i.zero=some z) (hsize:i.size=sz) (hby:i.bytes=bytes) (hzs:z.cells.size=sz) (hsz:0<sz)
 {S0:Nat->Prop} {b:Nat} {l:List D} {V:Value} (hs:a.eval s=V) (hrow:As S0 b e sz w l V) (hbw:b<=w.heap.size) {d:D} {cs:List Value} (hd:d.cells=sz) (hf:Ac (fun i=>S0 i/\V.ownBlock≠some i) w d cs)
 {B:Nat} {A:Option Addr} {c:Nat} (hx:a.eval x=.slice A 1 c) (hr:Bo w B sz A 1 cs) (h63:l.length+1<=maxLen) (hbytes:(l.length+1)*bytes<=140737488355328)
 (h: ∀V' w6,As S0 b e sz w6 (l++ [d]) V'->w.grownBy w6 V.ownBlock->(V'.ownBlock=V.ownBlock\/V'.ownBlock=some w.heap.size)->wpList P ops Q rest (a.put o.dst V') w6):wpList P ops Q (o::rest) a w:=
 wpList_plain hgd fun _ hK=>N8 s x t ho ht hi hz hsize hby hzs hsz hs hrow hbw hd hf hx hr h63 hbytes fun V' w6 h2 h3 h4=>hK _ _ (h V' w6 h2 h3 h4)
theorem Hd {ops:Array Oper} {o:Oper} {a:Act} {w:World} {K:Act->World->Prop} {Q:Exit->Act->World->Prop} {E:Prop} (hgd:o.guard=none) (s x:Operand) (t:TypeId) {e:TypeId}
 (ho:o.op=.call {callee:=.builtin .append,args:= #[s,x],argTypes:= #[t,t]}) {i:TypeInfo} {z:Value} {sz bytes:Nat} (ht:P.underlying t=some (.slice e)) (hi:P.info? e=some i) (hz:i.zero=some z) (hsize:i.size=sz) (hby:i.bytes=bytes) (hzs:z.cells.size=sz) (hsz:0<sz)
 {S0:Nat->Prop} {b:Nat} {l:List D} {V:Value} (hs:a.eval s=V) (hrow:As S0 b e sz w l V) (hbw:b<=w.heap.size) {d:D} {cs:List Value} (hd:d.cells=sz) (hf:Ac (fun i=>S0 i/\V.ownBlock≠some i) w d cs)
 {B:Nat} {A:Option Addr} {c:Nat} (hx:a.eval x=.slice A 1 c) (hr:Bo w B sz A 1 cs) (h63:l.length+1<=maxLen) (hbytes:(l.length+1)*bytes<=140737488355328)
 (h: ∀V' w6,As S0 b e sz w6 (l++ [d]) V'->w.grownBy w6 V.ownBlock->(V'.ownBlock=V.ownBlock\/V'.ownBlock=some w.heap.size)->K (a.put o.dst V') w6):
 if Region.wanted o (yielded ops a.tmps)=true then Oper.wp P o a w K Q else E:=by
 have hw:Region.wanted o (yielded ops a.tmps)=true:=by simp[Region.wanted,hgd]
 rw[if_pos hw];exact N8 s x t ho ht hi hz hsize hby hzs hsz hs hrow hbw hd hf hx hr h63 hbytes h
end
def Ck (w:World):Prop:=
 5<=w.heap.size/\Lib.Utf8Tabs 1 2 w/\Lib.TabIs Tryz.prog w "internal/strconv.uint64pow10" .u64 Lib.pow10Tab
def Aw (s:ByteArray):Bool:=Lib.validD s.data.toList
theorem Qe (s:ByteArray) (w:World) (hs:s.size<=9223372036854775807) (hT:Ck w):
 Calls Tryz.prog 108 #[.string s] w fun e w'=>e=.returned (.bool (Aw s))/\Below w.heap.size w w':=by
 have cV:=Tryz.utf8_ValidString s w hs hT.2.1;unfold Aw;generalize Lib.validD s.data.toList=V at cV ⊢;go_enter Tryz.func108,Tryz.ntmps108;go_wp2_with (go_at_call 158;refine cV.mono ?_;rintro e w' ⟨rfl,hb⟩);go_ret;exact⟨rfl,hb⟩
def Yz (a b:ByteArray):Bool:=Op.bytesLess a.toList b.toList||a.toList==b.toList
mutual
def A5:Val->Int->Int
 | .mk k b n t l o,d=>
   if E2 k b n t l.length o.length then 9 else if 64<d then 5 else if Aw t then(if C8 l (d+1)=0 then C5 o none (d+1)else C8 l (d+1))else 3
def C8:List Val->Int->Int
 | [],_=>0
 |v::r,d=>if A5 v d=0 then C8 r d else A5 v d
def C5:List (ByteArray×Val)->Option ByteArray->Int->Int
 | [],_,_=>0
 |p::r,last,d=>if M0 p last d=0 then C5 r (some p.1) d else M0 p last d
def M0:ByteArray×Val->Option ByteArray->Int->Int
 |(key,v),last,d=>if Aw key then(match last with|none=>A5 v d|some q=>if Yz key q then 8 else A5 v d)else 3
end
theorem Df {k:Int} {b:Bool} {n:Int} {t:ByteArray} {la oa:Option Addr} {ln lc on oc:Nat} {B:Bool} (h:E2 k b n t ln on=B) (w:World):
 Calls Tryz.prog 143 #[.agg #[.int .i64 k,.bool b,.int .i64 n,.string t,.slice la ln lc,.slice oa on oc]] w fun e w'=>e=.returned (.bool B)/\Below w.heap.size w w':=by
 subst h;exact Z7 _ _ _ _ _ _ _ _ _ _ _
theorem Ck.below {w w':World} (h:Ck w) (hb:Below w.heap.size w w'):Ck w':=by
 obtain⟨h5,⟨h1,h2⟩,h3⟩:=h;refine⟨Nat.le_trans h5 hb.size,⟨fun c hc=> ?_,fun i hi=>⟨?_, ?_⟩⟩,Go.Joins.tab_stays (g:=4) (by kernel_rfl) h3 hb (Nat.le_refl _)⟩
 . exact(hb.cell (p:=⟨1,c,none⟩) (by show 1<_;omega)).trans (h1 c hc)
 . exact(hb.cell (p:=⟨2,2*i,none⟩) (by show 2<_;omega)).trans (h2 i hi).1
 . exact(hb.cell (p:=⟨2,2*i+1,none⟩) (by show 2<_;omega)).trans (h2 i hi).2
theorem D7 {W w1:World} (hb:Below W.heap.size W w1):(∀b o,b<W.heap.size->w1.cell? ⟨b,o,none⟩=W.cell? ⟨b,o,none⟩)/\(∀b o,b<W.heap.size->w1.frozen? ⟨b,o,none⟩=W.frozen? ⟨b,o,none⟩):=
 ⟨fun b o h=>hb.cell (p:=⟨b,o,none⟩) h,fun b o h=>hb.frozen (p:=⟨b,o,none⟩) h⟩
theorem B5 {α:Type} {l:List α} {k:Nat} {v:α} (h:l[k]? =some v):l.drop k=v::l.drop (k+1):=by
 obtain⟨hlt,rfl⟩:=List.getElem?_eq_some_iff.1 h;exact List.drop_eq_getElem_cons hlt
theorem Bp {B:Nat} {a w:World} (h:Below B a w) (n:Nat):Below B a (w.drewN n):=⟨h.os,h.tape,h.output,h.size,h.block⟩
def Ae1 (v:Val):Prop:= ∀(cs:List Value) (d:Int) (w:World),Ck w->Aa w w.heap.size v cs->v.bulk<=1000000000->0<=d->d<=65->
    Calls Tryz.prog 93 #[.agg cs.toArray,.int .i64 d] w fun e w'=>e=.returned (.int .i64 (A5 v d))/\Below w.heap.size w w'
theorem Vc (b:Bool) (n:Int) (t:ByteArray) (l:List Val) (la oa:Option Addr) (lc oc:Nat) (d:Int) (w:World) (hT:Ck w) (g off:Nat) (hla:l= []\/(la=some ⟨g,off,none⟩/\g<w.heap.size/\Ai w w.heap.size l g off))
 (hb:A6 l<=1000000000) (h0:0<=d) (h64:d<=64) (IH: ∀v ∈ l,Ae1 v) (hodd:E2 5 b n t l.length 0=false):
 Calls Tryz.prog 93 #[.agg #[.int .i64 5,.bool b,.int .i64 n,.string t,.slice la l.length lc,.slice oa 0 oc],.int .i64 d] w fun e w'=>e=.returned (.int .i64 (C8 l (d+1)))/\Below w.heap.size w w':=by
 have hlen:l.length<=1000000000:=by have:=Ch l;omega
 go_enter Tryz.func93,Tryz.ntmps93;go_wp2_with (go_at_call 143;refine(Df hodd _).mono ?_;rintro e w1 ⟨rfl,hb1⟩;obtain⟨hc1,hf1⟩:=D7 hb1;have hz1:=hb1.size;simp only[World.size_alloc]at hz1);have hbw1:Below w.heap.size w w1:=((Below.refl _ _).alloc (Nat.le_refl _) _).trans (hb1.mono (by simp));have H:Hid (C8 (l.drop 0) (d+1)=C8 l (d+1)):=by rw[List.drop_zero];exact rfl
 clear hb1 hodd hc1 hf1 hz1;go_loopw [30] (fun i wr=> ∃k:Nat,k<=l.length/\i=.int .i64 k/\Hid (C8 (l.drop k) (d+1)=C8 l (d+1))/\Below w.heap.size w wr) (fun i _=>l.length - (intOf i).toNat)
 case atStart=>exact⟨0,Nat.zero_le _,rfl,H,hbw1⟩
 case round=>
  obtain⟨k,hk,rfl,hm,hbw⟩:=hrel;clear H hbw1;by_cases hlt:k<l.length
  . obtain⟨rfl,hg,hL⟩:la=some ⟨g,off,none⟩/\g<w.heap.size/\Ai w w.heap.size l g off:=by
     rcases hla with rfl|h
     . simp at hlt
     . exact h
    obtain⟨v,hv⟩: ∃v,l[k]? =some v:=⟨_,List.getElem?_eq_getElem hlt⟩;have hdrop:l.drop k=v::l.drop (k+1):=B5 hv;have hmem:v ∈ l:=List.mem_of_getElem? hv;have hbv:=Cp hmem;have IHv:=qz (IH v hmem);have hm':=hm.out;rw[hdrop]at hm';simp only[C8]at hm';clear hm hdrop hmem IH;obtain⟨m,hmv⟩: ∃m,A5 v (d+1)=m:=⟨_,rfl⟩;rw[hmv]at hm';obtain⟨Hmv,Hm⟩:=hid2 hmv hm';clear hm' hmv;obtain⟨k',b',n',t',l',o'⟩:=v;obtain⟨la',lc',oa',oc',hvs,c0,c1,c2,c3,c4,c5⟩:=(hL.below hg hbw).six hv;clear hla hL hv;have hz:=hbw.size;by_cases hm0:m=0
    . have Hk:Hid (C8 (l.drop (k+1)) (d+1)=C8 l (d+1)):=by
       have:=Hm.out
       rwa [if_pos hm0]at this
      subst hm0;clear Hm;go_wp2_with (go_at_call 93;refine(IHv.out _ (d+1) _ (hT.below (hbw.alloc hz _)) (Aa.more (by simp;omega) _ _ (hvs.below ((Below.refl _ _).alloc hz _))) (by omega) (by omega) (by omega)).mono ?_;rintro e w2 ⟨he,hb2⟩;rw[Hmv.out]at he;subst he;have hbw2:Below w.heap.size w w2:=(hbw.alloc hz _).trans (hb2.mono (by simp;omega));obtain⟨hc2,hf2⟩:=D7 hb2;have hz2:=hb2.size;simp only[World.size_alloc]at hz2);go_roundw
      case rel=>exact⟨k+1,by omega,by go_num,Hk,hbw2⟩
      case measure=>simp[intOf];omega
    . have Hk:Hid (m=C8 l (d+1)):=by
       have:=Hm.out
       rwa [if_neg hm0]at this
      clear Hm;have hm1:(m==0)=false:=by simpa using hm0
      have hm2:(m != 0)=true:=by simpa using hm0
      go_wp2_with (go_at_call 93;refine(IHv.out _ (d+1) _ (hT.below (hbw.alloc hz _)) (Aa.more (by simp;omega) _ _ (hvs.below ((Below.refl _ _).alloc hz _))) (by omega) (by omega) (by omega)).mono ?_;rintro e w2 ⟨he,hb2⟩;rw[Hmv.out]at he;subst he;have hbw2:Below w.heap.size w w2:=(hbw.alloc hz _).trans (hb2.mono (by simp;omega));obtain⟨hc2,hf2⟩:=D7 hb2;have hz2:=hb2.size;simp only[World.size_alloc]at hz2);go_ret;exact⟨by rw[<-Hk.out];rfl,hbw2⟩
  . obtain rfl:k=l.length:=by omega
    rw[List.drop_length]at hm;go_wp2;go_ret;exact⟨by rw[<-hm.out];rfl,hbw⟩
theorem Bl {s:ByteArray} {B:Bool} (h:Aw s=B) (w:World) (hs:s.size<=9223372036854775807) (hT:Ck w):
 Calls Tryz.prog 108 #[.string s] w fun e w'=>e=.returned (.bool B)/\Below w.heap.size w w':=by
 subst h;exact Qe _ _ hs hT
def D3 (o:List (ByteArray×Val)):Nat->Option ByteArray
 |0=>none
 |k+1=>(o[k]?).map (·.1)
theorem Y0 (b:Bool) (n:Int) (t:ByteArray) (o:List (ByteArray×Val)) (la oa:Option Addr) (lc oc:Nat) (d:Int) (w:World) (hT:Ck w) (g off:Nat) (hoa:o= []\/(oa=some ⟨g,off,none⟩/\g<w.heap.size/\Ak w w.heap.size o g off))
 (hb:Ag o<=1000000000) (h0:0<=d) (h64:d<=64) (IH: ∀m ∈ o,Ae1 m.2) (hodd:E2 6 b n t 0 o.length=false):
 Calls Tryz.prog 93 #[.agg #[.int .i64 6,.bool b,.int .i64 n,.string t,.slice la 0 lc,.slice oa o.length oc],.int .i64 d] w fun e w'=>e=.returned (.int .i64 (C5 o none (d+1)))/\Below w.heap.size w w':=by
 have hlen:o.length<=1000000000:=by have:=Bu o;omega
 go_enter Tryz.func93,Tryz.ntmps93;go_wp2_with (go_at_call 143;refine(Df hodd _).mono ?_;rintro e w1 ⟨rfl,hb1⟩;obtain⟨hc1,hf1⟩:=D7 hb1;have hz1:=hb1.size;simp only[World.size_alloc]at hz1);have hbw1:Below w.heap.size w w1:=((Below.refl _ _).alloc (Nat.le_refl _) _).trans (hb1.mono (by simp));have hbox1:w1.heap[w.heap.size]? =some (.cells #[.int .i64 6,.bool b,.int .i64 n,.string t,.slice la 0 lc,.slice oa o.length oc] 33 (0,0)):=by
  rw[hb1.block _ (by simp)];exact heap_alloc_new _ _
 have H:Hid (C5 (o.drop 0) (D3 o 0) (d+1)=C5 o none (d+1)):=by rw[List.drop_zero];exact rfl
 clear hb1 hodd hc1 hf1 hz1;go_loopw [47] (fun i wr=> ∃k:Nat,k<=o.length/\i=.int .i64 k/\Hid (C5 (o.drop k) (D3 o k) (d+1)=C5 o none (d+1))/\Below w.heap.size w wr/\wr.heap[w.heap.size]? =some (.cells #[.int .i64 6,.bool b,.int .i64 n,.string t,.slice la 0 lc,.slice oa o.length oc] 33 (0,0))) (fun i _=>o.length - (intOf i).toNat)
 case atStart=>exact⟨0,Nat.zero_le _,rfl,H,hbw1,hbox1⟩
 case round=>
  obtain⟨k,hk,rfl,hm,hbw,hbox⟩:=hrel;clear H hbw1 hbox1;by_cases hlt:k<o.length
  . obtain⟨rfl,hg,hL⟩:oa=some ⟨g,off,none⟩/\g<w.heap.size/\Ak w w.heap.size o g off:=by
     rcases hoa with rfl|h
     . simp at hlt
     . exact h
    obtain⟨⟨key,v⟩,hv⟩: ∃v,o[k]? =some v:=⟨_,List.getElem?_eq_getElem hlt⟩;have hdrop:o.drop k=(key,v)::o.drop (k+1):=B5 hv;have hmem:(key,v) ∈ o:=List.mem_of_getElem? hv;have hbv:=Ca hmem;simp only at hbv;have IHv:=qz (IH (key,v) hmem);have hlast:D3 o (k+1)=some key:=by simp[D3,hv]
    have hm':=hm.out;rw[hdrop]at hm';simp only[C5,M0,<-hlast]at hm';clear hm hdrop hmem IH;have hbx:w.heap.size<wr.heap.size:=(Array.getElem?_eq_some_iff.1 hbox).1;have b5:wr.cell? ⟨w.heap.size,5,none⟩=some (.slice (some ⟨g,off,none⟩) o.length oc):=by rw[Lib.cell_of_heap hbox];rfl
    have hz:=hbw.size;have hLr:=hL.below hg hbw;have hgr:g<wr.heap.size:=by omega
    obtain⟨k',b',n',t',l',o'⟩:=v;obtain⟨la',lc',oa',oc',hvs,c0,c1,c2,c3,c4,c5,c6⟩:=hLr.seven hv;by_cases hval:Aw key=true
    . rw[hval]at hm';simp only[if_true]at hm';by_cases hkp:0<k
      ·
       have hlt1:k - 1<o.length:=by omega
       obtain⟨⟨q,vq⟩,hq⟩: ∃m,o[k - 1]? =some m:=⟨_,List.getElem?_eq_getElem hlt1⟩;have hlq:D3 o k=some q:=by
        obtain⟨j,rfl⟩: ∃j,k=j+1:=⟨k - 1,by omega⟩;simp only[Nat.add_sub_cancel]at hq;simp[D3,hq]
       rw[hlq]at hm';simp only at hm';have cq:wr.cell? ⟨g,off+(k - 1)*7,none⟩=some (.string q):=(hLr.at_ hq).1;have hgd:decide (0<k)=true:=by simpa using hkp
       have hk1:(0:Int)<=(k:Int) - 1:=by omega
       have hk2:(k:Int) - 1<(o.length:Int):=by omega
       clear hlq hq hlast hL hv hLr hoa;by_cases hle:Yz key q=true
       . rw[if_pos hle]at hm';unfold Yz at hle;have Hm:=qz hm';clear hm';go_wp2_with (go_at_call 108;refine(Bl hval _ (by omega) (hT.below (hbw.alloc hz _))).mono ?_;rintro e w2 ⟨rfl,hb2⟩;obtain⟨hc2,hf2⟩:=D7 hb2;have hz2:=hb2.size;simp only[World.size_alloc]at hz2;have hbw2:Below w.heap.size w w2:=(hbw.alloc hz _).trans (hb2.mono (by simp;omega));have hvs2:=hvs.below (((Below.refl _ wr).alloc hz (.cells #[.string key,.int .i64 k',.bool b',.int .i64 n',.string t',.slice la' l'.length lc',.slice oa' o'.length oc'] 88)).trans (hb2.mono (by simp;omega))));have x1:IntKind.i64.wrap ((k:Int) - 1)=(k:Int) - 1:=IntWalk.i64_in _ (by omega);have y1:1<=k:=by omega
         have y2:(1:Int)<=(k:Int):=by omega
         have y3:(k:Int)<(o.length:Int)+1:=by omega
         have y4:k<o.length+1:=by omega
         have y5:(k:Int)<=(o.length:Int):=by omega
         have x2:((k:Int) - 1).toNat=k - 1:=by omega
         go_quiet (fail);clear x1 x2;go_wp2;go_ret;exact⟨by rw[<-Hm.out];rfl,Bp hbw2 _⟩
       . rw[if_neg hle]at hm';have hle':(Op.bytesLess key.toList q.toList||key.toList==q.toList)=false:=by simpa[Yz]using hle
         obtain⟨m,hmv⟩: ∃m,A5 (.mk k' b' n' t' l' o') (d+1)=m:=⟨_,rfl⟩;rw[hmv]at hm';have Hmv:=qz hmv;clear hmv;by_cases hm0:m=0
         . rw[if_pos hm0]at hm';subst hm0;have Hm:=qz hm';clear hm';go_wp2_with (go_at_call 108;refine(Bl hval _ (by omega) (hT.below (hbw.alloc hz _))).mono ?_;rintro e w2 ⟨rfl,hb2⟩;obtain⟨hc2,hf2⟩:=D7 hb2;have hz2:=hb2.size;simp only[World.size_alloc]at hz2;have hbw2:Below w.heap.size w w2:=(hbw.alloc hz _).trans (hb2.mono (by simp;omega));have hvs2:=hvs.below (((Below.refl _ wr).alloc hz (.cells #[.string key,.int .i64 k',.bool b',.int .i64 n',.string t',.slice la' l'.length lc',.slice oa' o'.length oc'] 88)).trans (hb2.mono (by simp;omega))));have x1:IntKind.i64.wrap ((k:Int) - 1)=(k:Int) - 1:=IntWalk.i64_in _ (by omega);have y1:1<=k:=by omega
           have y2:(1:Int)<=(k:Int):=by omega
           have y3:(k:Int)<(o.length:Int)+1:=by omega
           have y4:k<o.length+1:=by omega
           have y5:(k:Int)<=(o.length:Int):=by omega
           have x2:((k:Int) - 1).toNat=k - 1:=by omega
           go_quiet (fail);clear x1 x2;go_wp2_with (go_at_call 93;refine(IHv.out _ (d+1) _ (hT.below (Bp hbw2 _)) (Aa.more (by simp;omega) _ _ (hvs2.below (Bp (Below.refl _ _) _))) (by omega) (by omega) (by omega)).mono ?_;rintro e w3 ⟨he,hb3⟩;rw[Hmv.out]at he;subst he;have hbw3:Below w.heap.size w w3:=(Bp hbw2 _).trans (hb3.mono (by have:=hbw2.size;simp;omega));have hbx3:w3.heap[w.heap.size]? =wr.heap[w.heap.size]? :=(hb3.block _ (by simp;omega)).trans ((hb2.block _ (by simp;omega)).trans (Below.heap_alloc _ _ _ hbx)));go_roundw
           case rel=>exact⟨k+1,by omega,by go_num,Hm,hbw3,hbx3.trans hbox⟩
           case measure=>simp[intOf];omega
         . rw[if_neg hm0]at hm';have hm1:(m==0)=false:=by simpa using hm0
           have hm2:(m != 0)=true:=by simpa using hm0
           have Hm:=qz hm';clear hm';go_wp2_with (go_at_call 108;refine(Bl hval _ (by omega) (hT.below (hbw.alloc hz _))).mono ?_;rintro e w2 ⟨rfl,hb2⟩;obtain⟨hc2,hf2⟩:=D7 hb2;have hz2:=hb2.size;simp only[World.size_alloc]at hz2;have hbw2:Below w.heap.size w w2:=(hbw.alloc hz _).trans (hb2.mono (by simp;omega));have hvs2:=hvs.below (((Below.refl _ wr).alloc hz (.cells #[.string key,.int .i64 k',.bool b',.int .i64 n',.string t',.slice la' l'.length lc',.slice oa' o'.length oc'] 88)).trans (hb2.mono (by simp;omega))));have x1:IntKind.i64.wrap ((k:Int) - 1)=(k:Int) - 1:=IntWalk.i64_in _ (by omega);have y1:1<=k:=by omega
           have y2:(1:Int)<=(k:Int):=by omega
           have y3:(k:Int)<(o.length:Int)+1:=by omega
           have y4:k<o.length+1:=by omega
           have y5:(k:Int)<=(o.length:Int):=by omega
           have x2:((k:Int) - 1).toNat=k - 1:=by omega
           go_quiet (fail);clear x1 x2;go_wp2_with (go_at_call 93;refine(IHv.out _ (d+1) _ (hT.below (Bp hbw2 _)) (Aa.more (by simp;omega) _ _ (hvs2.below (Bp (Below.refl _ _) _))) (by omega) (by omega) (by omega)).mono ?_;rintro e w3 ⟨he,hb3⟩;rw[Hmv.out]at he;subst he;have hbw3:Below w.heap.size w w3:=(Bp hbw2 _).trans (hb3.mono (by have:=hbw2.size;simp;omega));have hbx3:w3.heap[w.heap.size]? =wr.heap[w.heap.size]? :=(hb3.block _ (by simp;omega)).trans ((hb2.block _ (by simp;omega)).trans (Below.heap_alloc _ _ _ hbx)));go_ret;exact⟨by rw[<-Hm.out];rfl,hbw3⟩
      . have hlk:D3 o k=none:=by
         obtain rfl:k=0:=by omega
         rfl
        rw[hlk]at hm';simp only at hm';have hgd:decide (0<k)=false:=by simpa using hkp
        have hk0:k<=0:=by omega
        clear hlk hlast hL hv hLr hoa;obtain⟨m,hmv⟩: ∃m,A5 (.mk k' b' n' t' l' o') (d+1)=m:=⟨_,rfl⟩;rw[hmv]at hm';have Hmv:=qz hmv;clear hmv;by_cases hm0:m=0
        . rw[if_pos hm0]at hm';subst hm0;have Hm:=qz hm';clear hm';go_wp2_with (go_at_call 108;refine(Bl hval _ (by omega) (hT.below (hbw.alloc hz _))).mono ?_;rintro e w2 ⟨rfl,hb2⟩;obtain⟨hc2,hf2⟩:=D7 hb2;have hz2:=hb2.size;simp only[World.size_alloc]at hz2;have hbw2:Below w.heap.size w w2:=(hbw.alloc hz _).trans (hb2.mono (by simp;omega));have hvs2:=hvs.below (((Below.refl _ wr).alloc hz (.cells #[.string key,.int .i64 k',.bool b',.int .i64 n',.string t',.slice la' l'.length lc',.slice oa' o'.length oc'] 88)).trans (hb2.mono (by simp;omega))));go_quiet (fail);go_wp2_with (go_at_call 93;refine(IHv.out _ (d+1) _ (hT.below (Bp hbw2 _)) (Aa.more (by simp;omega) _ _ (hvs2.below (Bp (Below.refl _ _) _))) (by omega) (by omega) (by omega)).mono ?_;rintro e w3 ⟨he,hb3⟩;rw[Hmv.out]at he;subst he;have hbw3:Below w.heap.size w w3:=(Bp hbw2 _).trans (hb3.mono (by have:=hbw2.size;simp;omega));have hbx3:w3.heap[w.heap.size]? =wr.heap[w.heap.size]? :=(hb3.block _ (by simp;omega)).trans ((hb2.block _ (by simp;omega)).trans (Below.heap_alloc _ _ _ hbx)));go_roundw
          case rel=>exact⟨k+1,by omega,by go_num,Hm,hbw3,hbx3.trans hbox⟩
          case measure=>simp[intOf];omega
        . rw[if_neg hm0]at hm';have hm1:(m==0)=false:=by simpa using hm0
          have hm2:(m != 0)=true:=by simpa using hm0
          have Hm:=qz hm';clear hm';go_wp2_with (go_at_call 108;refine(Bl hval _ (by omega) (hT.below (hbw.alloc hz _))).mono ?_;rintro e w2 ⟨rfl,hb2⟩;obtain⟨hc2,hf2⟩:=D7 hb2;have hz2:=hb2.size;simp only[World.size_alloc]at hz2;have hbw2:Below w.heap.size w w2:=(hbw.alloc hz _).trans (hb2.mono (by simp;omega));have hvs2:=hvs.below (((Below.refl _ wr).alloc hz (.cells #[.string key,.int .i64 k',.bool b',.int .i64 n',.string t',.slice la' l'.length lc',.slice oa' o'.length oc'] 88)).trans (hb2.mono (by simp;omega))));go_quiet (fail);go_wp2_with (go_at_call 93;refine(IHv.out _ (d+1) _ (hT.below (Bp hbw2 _)) (Aa.more (by simp;omega) _ _ (hvs2.below (Bp (Below.refl _ _) _))) (by omega) (by omega) (by omega)).mono ?_;rintro e w3 ⟨he,hb3⟩;rw[Hmv.out]at he;subst he;have hbw3:Below w.heap.size w w3:=(Bp hbw2 _).trans (hb3.mono (by have:=hbw2.size;simp;omega));have hbx3:w3.heap[w.heap.size]? =wr.heap[w.heap.size]? :=(hb3.block _ (by simp;omega)).trans ((hb2.block _ (by simp;omega)).trans (Below.heap_alloc _ _ _ hbx)));go_ret;exact⟨by rw[<-Hm.out];rfl,hbw3⟩
    . have hvf:Aw key=false:=by simpa using hval
      rw[hvf]at hm';have Hm:=qz hm';clear hm' hlast hval hbox hoa hL hv hLr;go_wp2_with (go_at_call 108;refine(Bl hvf _ (by omega) (hT.below (hbw.alloc hz _))).mono ?_;rintro e w2 ⟨rfl,hb2⟩;have hbw2:Below w.heap.size w w2:=(hbw.alloc hz _).trans (hb2.mono (by simp;omega)));go_ret;exact⟨by rw[<-Hm.out];simp,hbw2⟩
  . obtain rfl:k=o.length:=by omega
    rw[List.drop_length]at hm;go_wp2;go_ret;exact⟨by rw[<-hm.out];rfl,hbw⟩
theorem Gn {t:ByteArray} (h:t.toList= []):t=ByteArray.empty:=by
 rw[Lib.toList_data]at h;have:t.data= #[]:=by simpa using h
 exact ByteArray.ext this
theorem E9:Aw ByteArray.empty=true:=by decide
theorem M3 {k:Int} {b:Bool} {n:Int} {t:ByteArray} {ln on:Nat} (h:E2 k b n t ln on=false):
 (k=1\/k=2\/k=3\/k=4\/k=5\/k=6)/\(k=4\/t=ByteArray.empty)/\(k=5\/ln=0)/\(k=6\/on=0):=by
 unfold E2 at h;by_cases h1:k=1
 . subst h1;simp at h;exact⟨.inl rfl,.inr (Gn h.1.1.2),.inr h.1.2,.inr h.2⟩
 by_cases h2:k=2
 . subst h2;simp at h;exact⟨by omega,.inr (Gn h.1.1.2),.inr h.1.2,.inr h.2⟩
 by_cases h3:k=3
 . subst h3;simp at h;exact⟨by omega,.inr (Gn h.1.1.2),.inr h.1.2,.inr h.2⟩
 by_cases h4:k=4
 . subst h4;simp at h;exact⟨by omega,.inl rfl,.inr h.1.2,.inr h.2⟩
 by_cases h5:k=5
 . subst h5;simp at h;exact⟨by omega,.inr (Gn h.1.2),.inl rfl,.inr h.2⟩
 by_cases h6:k=6
 . subst h6;simp at h;exact⟨by omega,.inr (Gn h.1.2),.inr h.2,.inl rfl⟩
 simp[h1,h2,h3,h4,h5,h6]at h
theorem Iy {k:Int} {b:Bool} {n:Int} {t:ByteArray} {d:Int} (ho:E2 k b n t 0 0=false) (h64:d<=64):A5 (.mk k b n t [] []) d=if Aw t then 0 else 3:=by
 simp only[A5,List.length_nil,ho,Bool.false_eq_true,if_false,if_neg (show ¬64<d by omega),C8,C5,if_true]
theorem Z1: ∀(v:Val),Ae1 v:=by
 refine Val.ind ?_;intro k b n t l o ihl iho cs d w hT hV hb h0 h65;simp only[Aa]at hV;obtain⟨la,lc,oa,oc,rfl,hL,hO⟩:=hV;by_cases hodd:E2 k b n t l.length o.length=true
 . have hm:A5 (.mk k b n t l o) d=9:=by simp only[A5,hodd,if_true]
   rw[hm];clear hm ihl iho hL hO;go_enter Tryz.func93,Tryz.ntmps93;go_wp2_with (go_at_call 143;refine(Df hodd _).mono ?_;rintro e w' ⟨rfl,hb1⟩);go_ret;exact⟨rfl,((Below.refl _ _).alloc (Nat.le_refl _) _).trans (hb1.mono (by simp))⟩
 have hodd':E2 k b n t l.length o.length=false:=by simpa using hodd
 clear hodd;by_cases h64:64<d
 . have hm:A5 (.mk k b n t l o) d=5:=by simp only[A5,hodd',Bool.false_eq_true,if_false,h64,if_true]
   rw[hm];clear hm ihl iho hL hO;go_enter Tryz.func93,Tryz.ntmps93;go_wp2_with (go_at_call 143;refine(Df hodd' _).mono ?_;rintro e w' ⟨rfl,hb1⟩);go_ret;exact⟨rfl,((Below.refl _ _).alloc (Nat.le_refl _) _).trans (hb1.mono (by simp))⟩
 obtain⟨hk,ht,hl,ho⟩:=M3 hodd';simp only[Val.bulk]at hb;rcases hk with rfl|rfl|rfl|rfl|rfl|rfl
 . obtain rfl:l= []:=List.eq_nil_of_length_eq_zero (by omega);obtain rfl:o= []:=List.eq_nil_of_length_eq_zero (by omega);obtain rfl:t=ByteArray.empty:=by simpa using ht
   rw[Iy hodd' (by omega),E9];clear ihl iho hL hO hl ho ht;go_enter Tryz.func93,Tryz.ntmps93;go_wp2_with (go_at_call 143;refine(Df hodd' _).mono ?_;rintro e w' ⟨rfl,hb1⟩;obtain⟨hc1,hf1⟩:=D7 hb1;have hz1:=hb1.size;simp only[World.size_alloc]at hz1);go_ret;exact⟨rfl,((Below.refl _ _).alloc (Nat.le_refl _) _).trans (hb1.mono (by simp))⟩
 . obtain rfl:l= []:=List.eq_nil_of_length_eq_zero (by omega);obtain rfl:o= []:=List.eq_nil_of_length_eq_zero (by omega);obtain rfl:t=ByteArray.empty:=by simpa using ht
   rw[Iy hodd' (by omega),E9];clear ihl iho hL hO hl ho ht;go_enter Tryz.func93,Tryz.ntmps93;go_wp2_with (go_at_call 143;refine(Df hodd' _).mono ?_;rintro e w' ⟨rfl,hb1⟩;obtain⟨hc1,hf1⟩:=D7 hb1;have hz1:=hb1.size;simp only[World.size_alloc]at hz1);go_ret;exact⟨rfl,((Below.refl _ _).alloc (Nat.le_refl _) _).trans (hb1.mono (by simp))⟩
 . obtain rfl:l= []:=List.eq_nil_of_length_eq_zero (by omega);obtain rfl:o= []:=List.eq_nil_of_length_eq_zero (by omega);obtain rfl:t=ByteArray.empty:=by simpa using ht
   rw[Iy hodd' (by omega),E9];clear ihl iho hL hO hl ho ht;go_enter Tryz.func93,Tryz.ntmps93;go_wp2_with (go_at_call 143;refine(Df hodd' _).mono ?_;rintro e w' ⟨rfl,hb1⟩;obtain⟨hc1,hf1⟩:=D7 hb1;have hz1:=hb1.size;simp only[World.size_alloc]at hz1);go_ret;exact⟨rfl,((Below.refl _ _).alloc (Nat.le_refl _) _).trans (hb1.mono (by simp))⟩
 . obtain rfl:l= []:=List.eq_nil_of_length_eq_zero (by omega);obtain rfl:o= []:=List.eq_nil_of_length_eq_zero (by omega);rw[Iy hodd' (by omega)];clear ihl iho hL hO hl ho ht;have hT1: ∀w1,Below w.heap.size w w1->Ck w1:=fun _ h=>hT.below h;by_cases hv:Aw t=true
   . rw[hv];go_enter Tryz.func93,Tryz.ntmps93;go_wp2_with (first|(go_at_call 143;refine(Df hodd' _).mono ?_;rintro e w1 ⟨rfl,hb1⟩;obtain⟨hc1,hf1⟩:=D7 hb1;have hz1:=hb1.size;simp only[World.size_alloc]at hz1;have hbw1:Below w.heap.size w w1:=((Below.refl _ _).alloc (Nat.le_refl _) _).trans (hb1.mono (by simp)))|(go_at_call 108;refine(Bl hv _ (by omega) (hT1 _ hbw1)).mono ?_;rintro e w2 ⟨rfl,hb2⟩));go_ret;exact⟨rfl,hbw1.trans (hb2.mono hbw1.size)⟩
   . have hv':Aw t=false:=by simpa using hv
     rw[hv'];go_enter Tryz.func93,Tryz.ntmps93;go_wp2_with (first|(go_at_call 143;refine(Df hodd' _).mono ?_;rintro e w1 ⟨rfl,hb1⟩;obtain⟨hc1,hf1⟩:=D7 hb1;have hz1:=hb1.size;simp only[World.size_alloc]at hz1;have hbw1:Below w.heap.size w w1:=((Below.refl _ _).alloc (Nat.le_refl _) _).trans (hb1.mono (by simp)))|(go_at_call 108;refine(Bl hv' _ (by omega) (hT1 _ hbw1)).mono ?_;rintro e w2 ⟨rfl,hb2⟩));go_ret;exact⟨rfl,hbw1.trans (hb2.mono hbw1.size)⟩
 . obtain rfl:o= []:=List.eq_nil_of_length_eq_zero (by omega);obtain rfl:t=ByteArray.empty:=by simpa using ht
   have hm:A5 (.mk 5 b n ByteArray.empty l []) d=C8 l (d+1):=by
    simp only[A5,hodd',Bool.false_eq_true,if_false,h64,E9,if_true,C5]
    split<;>simp_all
   rw[hm];rcases hL with rfl|⟨g,off,rfl,hg,hL⟩
   . exact Vc b n _ [] la oa lc oc d w hT 0 0 (.inl rfl) (by simp[A6]) h0 (by omega) ihl hodd'
   . exact Vc b n _ l _ oa lc oc d w hT g off (.inr ⟨rfl,hg,hL⟩) (by omega) h0 (by omega) ihl hodd'
 . obtain rfl:l= []:=List.eq_nil_of_length_eq_zero (by omega);obtain rfl:t=ByteArray.empty:=by simpa using ht
   have hm:A5 (.mk 6 b n ByteArray.empty [] o) d=C5 o none (d+1):=by
    simp only[A5,hodd',Bool.false_eq_true,if_false,h64,E9,if_true,C8]
   rw[hm];rcases hO with rfl|⟨g,off,rfl,hg,hO⟩
   . exact Y0 b n _ [] la oa lc oc d w hT 0 0 (.inl rfl) (by simp[Ag]) h0 (by omega) iho hodd'
   . exact Y0 b n _ o la _ lc oc d w hT g off (.inr ⟨rfl,hg,hO⟩) (by omega) h0 (by omega) iho hodd'
theorem Mo (v:Val) (cs:List Value) (w:World) (hT:Ck w) (hV:Aa w w.heap.size v cs) (hb:v.bulk<=1000000000):
 Calls Tryz.prog 56 #[.agg cs.toArray] w fun e w'=>e=.returned (.int .i64 (A5 v 1))/\Below w.heap.size w w':=by
 have hV':=hV;obtain⟨k,b,n,t,l,o⟩:=v;simp only[Aa]at hV';obtain⟨la,lc,oa,oc,rfl,_,_⟩:=hV';have hc:=Z1 _ _ 1 (w.alloc (.cells #[.int .i64 k,.bool b,.int .i64 n,.string t,.slice la l.length lc,.slice oa o.length oc] 33)) (hT.below ((Below.refl _ _).alloc (Nat.le_refl _) _)) (Aa.more (by simp) _ _ (hV.below ((Below.refl _ _).alloc (Nat.le_refl _) _))) hb (by omega) (by omega);generalize A5 _ _=m at hc ⊢;have H:=qz hc;clear hc hV;go_enter Tryz.func56,Tryz.ntmps56;go_wp2_with (go_at_call 93;refine(H.out).mono ?_;rintro e w' ⟨rfl,hb1⟩);go_ret;exact⟨rfl,((Below.refl _ _).alloc (Nat.le_refl _) _).trans (hb1.mono (by simp))⟩
def Abb {α:Type} (P:Program) (gf:Nat) (lb:Array Value) (encs:α->Array Value) (xs:List α) (N:World->Prop):Prop:=
 ∀(n l:Nat) (J:List α->World->Prop) (W:World),(∀s A B,J s A->Below A.heap.size A B->J s B)->(∀s A,J s A->N A)->
  (∀pre x rest A,xs=pre++x::rest->J pre A->YieldAt Fence.wide n P l (encs x) A fun e B=>e=.returned (.bool true)/\J (pre++ [x]) B)->
  J [] W->CallsIn Fence.wide (n+1) P gf (#[.func (.yield l) #[] #[]]++lb) W fun e B=>(∃v,e=.returned v)/\J xs B
def Mv (I:World->Prop) (d:Nat) (W:World):Exit->Act->World->Prop
 | .normal,_,W'=>W'.heap[d]? =W.heap[d]? /\W'.heap[d+1]? =W.heap[d+1]? /\I W'
 |_,_,_=>False
theorem Tu {α:Type} {P:Program} {g:Operand} {ps:Array Tmp} {assign body:Code} {Q:Exit->Act->World->Prop} {a:Act} {w:World} {n:Nat}
 {gf:Nat} {lb:Array Value} (hg:a.eval g=.func (.func gf) #[] lb) (eg: ∀args w,(callFunc gf args).run P w=.ok (.enter gf args) w)
 {encs:α->Array Value} {xs:List α} {N:World->Prop} (hit:Abb P gf lb encs xs N) (hps: ∀x,(encs x).size=ps.size)
 (I:List α->World->Prop) (hIn: ∀s A B,I s A->Below A.heap.size A B->I s B)
 (hIp: ∀s A k o o',I s A->A.heap[k]? =some o->o.isCells=false->(k=w.heap.size\/k=w.heap.size+1)->I s (A.putObj k o'))
 (hIb: ∀s A,I s A->N A) (h0:I [] w) (a₁:α->Act)
 (hassign: ∀(l:Nat) (x:α) (W:World) (K:Act->World->Prop),K (a₁ x) W->
   assign.wpIn (Fence.wide.inRound l) n P (Exit.then K (fun _ _ _=>False)) {tmps:=(ps.zip (encs x)).foldl (fun t (p,v)=>t.setIfInBounds p v) a.tmps,defers:= []} W)
 (hbody: ∀(l:Nat) (pre:List α) (x:α) (rest:List α) (W:World),xs=pre++x::rest->I pre W->(∃ds,W.heap[w.heap.size]? =some (.deferred ds))->(∃r,W.heap[w.heap.size+1]? =some (.loop r))->
   body.wpIn (Fence.wide.inRound l) n P (Mv (I (pre++ [x])) w.heap.size W) (a₁ x) W)
 (hdone: ∀(W:World),I xs W->W.heap[w.heap.size]? =some (.deferred (some []))->Q .normal {a with defers:={target:=.collected w.heap.size,args:= #[]}::a.defers} W):
 (Code.rangeFunc g ps assign body).wpIn Fence.wide (n+1+1) P Q a w:=by
 refine wpIn_rangeFunc ?_;intro fn hfn;have hro:Fence.wide.round=none:=rfl;rw[hro];obtain⟨rec,hrec⟩: ∃rec:LoopState->Option Code->Loop,rec=fun st pe=>{state:=st,pending:=pe,fn,tmps:=a.tmps,params:=ps,assign,body,defers:=w.heap.size}:=⟨_,rfl⟩;obtain⟨W1,hW1⟩: ∃W1,(w.alloc (.deferred (some []))).alloc (.loop (rec .ready none))=W1:=⟨_,rfl⟩;have hL1:W1.heap[w.heap.size+1]? =some (.loop (rec .ready none)):=by
  rw[<-hW1];have:=World.alloc_heap_new (w.alloc (.deferred (some []))) (.loop (rec .ready none));rwa [World.size_alloc]at this
 have hK1:W1.heap[w.heap.size]? =some (.deferred (some [])):=by
  rw[<-hW1];exact(Below.heap_alloc _ _ _ (by simp)).trans (World.alloc_heap_new w _)
 have hI1:I [] W1:=by
  rw[<-hW1];exact hIn _ _ _ h0 (((Below.refl _ w).alloc (Nat.le_refl _) _).alloc (by simp) _)
 refine⟨w.heap.size+1, [{target:=.collected w.heap.size,args:= #[]}],W1,{target:=.fn (.func gf) lb,args:= #[.func (.yield (w.heap.size+1)) #[] #[]]},W1,gf,
  #[.func (.yield (w.heap.size+1)) #[] #[]]++lb,W1, ?_, ?_, ?_, ?_,fun h=>by simp[Fence.wide]at h, ?_⟩
 . rw[<-hW1,hrec];exact run_enterLoop_outer _ _ _ _ _
 . simp only[resolve,hg];simp[go_sem]
 . intro f' _;trivial
 . simp[invoke,go_sem,eg]
 . refine(hit n (w.heap.size+1)
    (fun pre W=>I pre W/\W.heap[w.heap.size+1]? =some (.loop (rec .ready none))/\W.heap[w.heap.size]? =some (.deferred (some [])))
    W1 (fun s A B hs hb=>⟨hIn s A B hs.1 hb,(hb.block _ (Array.getElem?_eq_some_iff.1 hs.2.1).1).trans hs.2.1,(hb.block _ (Array.getElem?_eq_some_iff.1 hs.2.2).1).trans hs.2.2⟩)
    (fun s A hs=>hIb s A hs.1) ?_ ⟨hI1,hL1,hK1⟩).mono ?_
   ·
    rintro pre x rest W hx ⟨hi,hl,hk⟩;have hlt:w.heap.size+1<W.heap.size:=(Array.getElem?_eq_some_iff.1 hl).1;have hy:=run_yield (P:=P) (args:=encs x) hl (by rw[hrec];exact hps x);rw[hrec]at hy;refine⟨fn,_,assign,body,hy,roundIn_of_wpIn trivial (hassign _ x W _ ⟨_,run_beginRound hl (by rw[hrec]), ?_⟩)⟩;have hl2:(W.putObj (w.heap.size+1) (.loop {rec .ready none with state:=.busy})).heap[w.heap.size+1]? =some (.loop {rec .ready none with state:=.busy}):=World.putObj_heap_same hlt;have hk2:(W.putObj (w.heap.size+1) (.loop {rec .ready none with state:=.busy})).heap[w.heap.size]? =some (.deferred (some [])):=(World.putObj_heap_other (by omega)).trans hk;refine wpIn_mono (hbody _ pre x rest _ hx (hIp _ _ _ _ _ hi hl rfl (.inr rfl)) ⟨_,hk2⟩ ⟨_,hl2⟩) ?_;rintro e a3 W3 hp
    cases e with
    |normal=>
     obtain⟨h1,h2,hi3⟩:=hp;have hl3:=h2.trans hl2;have hk3:=h1.trans hk2;have hr:=run_endRound (P:=P) none hl3;rw[hrec]at hr;refine⟨_,_,hr,rfl,hIp _ _ _ _ _ hi3 hl3 rfl (.inr rfl), ?_, ?_⟩
     . rw[World.putObj_heap_same (Array.getElem?_eq_some_iff.1 hl3).1,hrec];rfl
     . exact(World.putObj_heap_other (by omega)).trans hk3
    |ret=>exact hp.elim
    |exit id=>exact hp.elim
    |goto t=>exact hp.elim
    |panic ch=>exact hp.elim
    |outgrown=>exact hp.elim
   ·
    rintro e W2 ⟨⟨v,rfl⟩,hi,hl,hk⟩;exact⟨none,_,by have:=run_endLoop (P:=P) hl (by rw[hrec];simp);rw[hrec]at this;exact this,hdone _ (hIp _ _ _ _ _ hi hl rfl (.inr rfl)) ((World.putObj_heap_other (by omega)).trans hk)⟩
structure MKey {α:Type} [DecidableEq α] (P:Program) (kt:TypeId) (f:α->Value):Prop where
 under: ∃d,P.underlying kt=some d/\ ∀a b,Instr.sameNow d (f a) (f b)=some (decide (a=b))
 check: ∀e w a,(Instr.checkKey e 10000 kt (f a)).run P w=.ok () w
theorem O4 (a b:ByteArray):(a==b)=decide (a=b):=by
 obtain⟨a⟩:=a;obtain⟨b⟩:=b;have h:((⟨a⟩:ByteArray)==⟨b⟩)=(a==b):=rfl;rw[h];by_cases e:a=b<;>simp[e]
theorem Vg {P:Program} {kt:TypeId} (h:P.underlying kt=some .string):MKey P kt Value.string:=by
 refine⟨⟨_,h,fun a b=> ?_⟩,fun e w a=> ?_⟩
 . simp only[Instr.sameNow]
   congr 1
   exact O4 a b
 . have key: ∀n,(Instr.checkKey e (n+1) kt (.string a)).run P w=.ok () w:=fun n=>by simp[Instr.checkKey,run_underlying h]
   exact key 9999
section
variable {α:Type}
def Gx (f:α->Value):List (α×Value)->Nat->List MapEntry
 | [],_=> []
 |(k,v)::r,i=>{key:=f k,val:=v,born:=i}::Gx f r (i+1)
def Dc (f:α->Value) (w:World) (g:Nat) (kv:List (α×Value)):Prop:=w.heap[g]? =some (.map (Gx f kv 0).toArray kv.length)
def Fs [DecidableEq α] (a:α):List (α×Value)->Option Value
 | []=>none
 |(k,v)::r=>if a=k then some v else Fs a r
variable {f:α->Value} {P:Program} {kt et t:TypeId} {w w':World} {g:Nat} {kv:List (α×Value)}
theorem Lz: ∀(kv:List (α×Value)) (i:Nat) (k:α) (v:Value),Gx f (kv++ [(k,v)]) i=Gx f kv i++ [{key:=f k,val:=v,born:=i+kv.length}]
 | [],i,k,v=>by simp[Gx]
 |(a,b)::r,i,k,v=>by
  simp only[List.cons_append,Gx,Lz r,List.length_cons];rw[show i+1+r.length=i+(r.length+1)from by omega]
theorem Dc.lt (h:Dc f w g kv):g<w.heap.size:=by
 rcases Nat.lt_or_ge g w.heap.size with h1|h1
 . exact h1
 . unfold Dc at h;rw[Array.getElem?_eq_none h1]at h;cases h
theorem Dc.keep (h:Dc f w g kv) (hk:w'.heap[g]? =w.heap[g]?):Dc f w' g kv:=hk.trans h
theorem Dc.below {B:Nat} (h:Dc f w g kv) (hb:Below B w w') (hg:g<B):Dc f w' g kv:=(hb.block g hg).trans h
theorem Dc.alloc (h:Dc f w g kv) (o:Obj):Dc f (w.alloc o) g kv:=(Below.heap_alloc w o g h.lt).trans h
theorem Dc.new (w:World):Dc f (w.alloc (.map #[] 0)) w.heap.size []:=heap_alloc_new w _
theorem Dc.setCell (h:Dc f w g kv) {p:Addr} (hp:g≠p.block) (u:Value):Dc f (w.setCell p u) g kv:=(Below.heap_setCell w p u g hp).trans h
variable [DecidableEq α]
theorem Mu {d:TypeDesc} (hd: ∀a b,Instr.sameNow d (f a) (f b)=some (decide (a=b))) (a:α): ∀(kv:List (α×Value)) (i j:Nat),∃q,Instr.findNow d (f a) (Gx f kv i) j=some q/\q.map (·.2)=Fs a kv
 | [],_,_=>⟨none,rfl,rfl⟩
 |(k,v)::r,i,j=>by
  by_cases h:a=k
  . exact⟨some (j,v),by simp[Gx,Instr.findNow,hd,h],by simp[Fs,h]⟩
  . obtain⟨q,h1,h2⟩:=Mu hd a r (i+1) (j+1);exact⟨q,by simp[Gx,Instr.findNow,hd,h,h1],by rw[h2];simp[Fs,h]⟩
theorem Vv (K:MKey P kt f) (ht:P.underlying t=some (.map kt et)) (h:Dc f w g kv) {a:α} (hn:Fs a kv=none) (v:Value):
 ∃w',(Instr.mapUpdate t (.map (some g)) (f a) v).run P w=.ok () w'/\Dc f w' g (kv++ [(a,v)])/\w.grownBy w' (some g)/\w'.heap.size=w.heap.size:=by
 obtain⟨d,hd,hs⟩:=K.under;obtain⟨q,h1,h2⟩:=Mu hs a kv 0 0;rw[hn]at h2;have hq:q=none:=by cases q<;>simp_all
 subst hq;have hck:=K.check false w a;have hfk:(Instr.findKey kt (f a) (Gx f kv 0)).run P w=.ok none w:=by simp[Instr.findKey,Sem.run_bind,run_underlying hd,h1]
 have hlt:=h.lt;refine⟨{w with heap:=w.heap.setIfInBounds g (.map ((Gx f kv 0).toArray.push {key:=f a,val:=v,born:=kv.length}) (kv.length+1))}, ?_, ?_, ?_, ?_⟩
 . have hb:w.heap[g]? =some (.map (Gx f kv 0).toArray kv.length):=h;unfold Instr.mapUpdate;simp only[Sem.run_bind,run_underlying ht,Result.andThen,getObj,Sem.run,hb,hck,hfk,setObj]
 . unfold Dc;simp[hlt,Lz]
 . exact⟨rfl,rfl,rfl,by simp,fun k hk hne=>by simp only[Array.getElem?_setIfInBounds];rw[if_neg];rintro rfl;exact hne rfl⟩
 . simp
theorem Gq {ops:Array Oper} {rest:List Oper} {o:Oper} {a:Act} {Q:Exit->Act->World->Prop} (hg:o.guard=none) (m x u:Operand) (t:TypeId) (hop:o.op=Op.insert t m x u)
 (K:MKey P kt f) (ht:P.underlying t=some (.map kt et)) (hm:a.eval m=.map (some g)) (h:Dc f w g kv) {k:α} {v:Value} (hx:a.eval x=f k) (hv:a.eval u=v) (hn:Fs k kv=none)
 (hK: ∀w',Dc f w' g (kv++ [(k,v)])->w.grownBy w' (some g)->w'.heap.size=w.heap.size->wpList P ops Q rest (a.put o.dst undef) w'):wpList P ops Q (o::rest) a w:=by
 refine wpList_plain hg fun K' hK'=> ?_;obtain⟨w',hrun,r1,r2,r3⟩:=Vv K ht h hn v;unfold Oper.wp;simp[execOp,hop,hm,hx,hv,hrun,Result.andThen];exact hK' _ _ (hK w' r1 r2 r3)
theorem Aan (K:MKey P kt f) (ht:P.underlying t=some (.map kt et)) (h:Dc f w g kv) (a:α) {z:Value} (hz: ∀w,(zeroValue et).run P w=.ok z w) (c:Bool):
 (Instr.lookup t (.map (some g)) (f a) c).run P w=.ok (if c then .tuple #[(Fs a kv).getD z,.bool (Fs a kv).isSome]else(Fs a kv).getD z) w:=by
 obtain⟨d,hd,hs⟩:=K.under;obtain⟨q,h1,h2⟩:=Mu hs a kv 0 0;have hck:=fun e=>K.check e w a;have hfk:(Instr.findKey kt (f a) (Gx f kv 0)).run P w=.ok q w:=by simp[Instr.findKey,Sem.run_bind,run_underlying hd,h1]
 have hb:w.heap[g]? =some (.map (Gx f kv 0).toArray kv.length):=h;unfold Instr.lookup;simp only[Sem.run_bind,run_underlying ht,Result.andThen,getObj,Sem.run,hb]
 cases q with
 |none=>
  have:Fs a kv=none:=by cases hq:Fs a kv<;>simp_all
  rw[this]
  cases c<;>simp[hck,hfk,hz w,Result.andThen]
 |some p=>
  obtain⟨i,v⟩:=p;have:Fs a kv=some v:=by rw[<-h2];rfl
  rw[this]
  cases c<;>simp[hck,hfk]
end
theorem T9 {t:List UInt8} {s:ByteArray}:(t==s.toList)=decide (t=s.data.toList):=by
 rw[ByteArray.toList_eq,Bool.eq_iff_iff];simp
end Go.Proofs.YtdbejcbbhomdbaaGreatDoor
