/- Parts, joined: Rows that a call builds by append, of data of any make. Plain. No condition. append of one datum to a row that the call builds: the law that the walks use. No condition. Maps cell by cell, whatever their elements: an entry stored, an entry looked up. Plain. No condition. utf.Runes: the iterator over a text's runes and their places, by rounds that may end it. Condition: a text shorter than 10^9. -/
import Derived.Test.YtackmnbpfbaemaaGreatDoorProg
import Derived.WalkKit
import Derived.Below
import Derived.Maps.OwnSet
import Derived.Laws.OwnMore
import Derived.Test.YtackmnbpfbaemaaGreatDoorKPb3
import Derived.Test.YtackmnbpfbaemaaGreatDoorKPb4
import Derived.Test.YtackmnbpfbaemaaGreatDoorKPb5
import Derived.Test.YtackmnbpfbaemaaGreatDoorKPb6
namespace Go.Proofs.YtackmnbpfbaemaaGreatDoor
open Go Go.RowKit
theorem add_plain' (g off i:Nat):(⟨g,off,none⟩:Addr).add i=⟨g,off+i,none⟩:=Go.WideShapes.add_plain g off i
theorem Holds.reads {w:World} {B s:Nat} {l:List D} {a:Option Addr} {n c:Nat} (h:Holds w B (.row s l) [.slice a n c]): ∃ns,Reads w B s a n ns∧HoldsA w B l ns∧ ∀u ∈ ns,u.oneCell'=true:=by
 have hn:=h.row_len
 obtain⟨a',c',e,hs,ns,h1,h2⟩:=h
 simp only[List.cons.injEq,Value.slice.injEq,and_true]at e
 obtain⟨rfl,rfl,rfl⟩:=e
 refine⟨ns,⟨by rw[h1.len.1,cellsA_all hs],fun h0=> ?_⟩,h1,h1.len.2⟩
 rcases h2 with rfl|⟨g,off,e,hg,hc⟩
 · simp at h0
 · exact⟨_,e,hg,fun j u hu=>by rw[add_plain'];exact hc j u hu⟩
def RowD (b:Nat) (t:TypeId) (s:Nat) (wr:World) (l:List D) (V:Value):Prop:=
 ∃ns,wr.ownsRow b t s V l.length ns∧(∀d ∈ l,d.cells=s)∧ ∀w'':World,wr.heap.size≤w''.heap.size→
  (∀p:Addr,b≤p.block→p.block<wr.heap.size→V.ownBlock≠some p.block→w''.cell? p=wr.cell? p)→HoldsA w'' wr.heap.size l ns
theorem RowD.nil (b:Nat) (t:TypeId) (s:Nat) (wr:World):RowD b t s wr [] (.slice none 0 0):=⟨[],World.ownsRow_nil _ _ _ _,fun d hd=>(by cases hd),fun _ _ _=>rfl⟩
theorem RowD.base {b:Nat} {t:TypeId} {s:Nat} {wr:World} {l:List D} {V:Value} (h:RowD b t s wr l V): ∀g,V.ownBlock=some g→b≤g∧g<wr.heap.size:=by
 obtain⟨ns,h1,_⟩:=h
 exact h1.lt
theorem RowD.keep {b:Nat} {t:TypeId} {s:Nat} {wr w':World} {l:List D} {V:Value} (h:RowD b t s wr l V) (hs:wr.heap.size≤w'.heap.size) (hk: ∀i,b≤i→i<wr.heap.size→w'.heap[i]? =wr.heap[i]?):RowD b t s w' l V:=by
 obtain⟨ns,h1,h2,h3⟩:=h
 refine⟨ns,⟨h1.1, ?_⟩,h2,fun w'' k1 k2=>HoldsA.more (h3 w'' (by omega) (fun p p1 p2 p3=>(k2 p p1 (by omega) p3).trans (World.cell?_of_block (hk p.block p1 p2)))) hs⟩
 rcases h1.2 with⟨rfl,h0⟩|⟨g,cap,cur,rfl,hbg,hg,h5⟩
 · exact .inl ⟨rfl,h0⟩
 · exact .inr ⟨g,cap,cur,rfl,hbg,(hk g hbg (Array.getElem?_eq_some_iff.1 hg).1).trans hg,h5⟩
theorem RowD.below {b:Nat} {t:TypeId} {s:Nat} {wr w':World} {l:List D} {V:Value} (h:RowD b t s wr l V) (hb:Below wr.heap.size wr w'):RowD b t s w' l V:=h.keep hb.size fun i _ hi=>hb.block i hi
theorem RowD.step {b:Nat} {t:TypeId} {s:Nat} {wr w4 w6:World} {l:List D} {V V':Value} {d:D} {cs ns:List Value} (hbw:b≤wr.heap.size)
 (hns: ∀w'':World,wr.heap.size≤w''.heap.size→(∀p:Addr,b≤p.block→p.block<wr.heap.size→V.ownBlock≠some p.block→w''.cell? p=wr.cell? p)→HoldsA w'' wr.heap.size l ns)
 (hall: ∀d ∈ l,d.cells=s) (hd:d.cells=s) (hx:Fresh wr.heap.size w4 d cs) (hlt: ∀g,V.ownBlock=some g→g<wr.heap.size)
 (hown:w6.ownsRow b t s V' (l.length+1) (ns++cs)) (hV:V'.ownBlock=V.ownBlock∨ ∃N,V'.ownBlock=some N∧w4.heap.size≤N)
 (hs4:wr.heap.size≤w4.heap.size) (hs6:w4.heap.size≤w6.heap.size) (h4: ∀p:Addr,b≤p.block→p.block<wr.heap.size→w4.cell? p=wr.cell? p)
 (h6: ∀p:Addr,b≤p.block→p.block<w4.heap.size→V.ownBlock≠some p.block→w6.cell? p=w4.cell? p):RowD b t s w6 (l++ [d]) V':=by
 refine⟨ns++cs,by rw[List.length_append];exact hown, ?_,fun w'' hsz hag=> ?_⟩
 · intro x hx'
   rcases List.mem_append.1 hx' with hx'|hx'
   · exact hall x hx'
   · simp only[List.mem_cons,List.not_mem_nil,or_false]at hx'
     rw[hx'];exact hd
 · have hnew: ∀p:Addr,p.block<w4.heap.size→V.ownBlock≠some p.block→V'.ownBlock≠some p.block:=by
    intro p p2 p3
    rcases hV with e|⟨N,e,hN⟩
    · rw[e];exact p3
    · rw[e];intro e2;have:=Option.some.inj e2;omega
   have a1:HoldsA w'' w6.heap.size l ns:=HoldsA.more (hns w'' (by omega) (fun p p1 p2 p3=>by
    rw[hag p p1 (by omega) (hnew p (by omega) p3),h6 p p1 (by omega) p3,h4 p p1 p2])) (by omega)
   have a2:Holds w'' w6.heap.size d cs:=Holds.more (hx w'' (by omega) (fun p p1 p2=>by
    have p3:V.ownBlock≠some p.block:=fun e=>by have:=hlt _ e;omega
    rw[hag p (by omega) (by omega) (hnew p p2 p3),h6 p (by omega) p2 p3])) hs6
   exact a1.snoc a2
theorem RowD.close {b:Nat} {t:TypeId} {s:Nat} {wr:World} {l:List D} {V:Value} (h:RowD b t s wr l V):
 ∃a c,V= .slice a l.length c∧l.length≤c∧Fresh b wr (.row s l) [.slice a l.length c]∧((l= []∧a=none∧c=0)∨ ∃g,a=some ⟨g,0,none⟩∧b≤g∧g<wr.heap.size):=by
 obtain⟨ns,h1,h2,h3⟩:=h
 have h1':=h1
 rcases h1.2 with⟨rfl,h0⟩|⟨g,cap,cur,rfl,hbg,hg,hnc,_⟩
 · have hl:l= []:=List.eq_nil_of_length_eq_zero h0
   subst hl
   exact⟨none,0,rfl,Nat.le_refl _,fun _ _ _=>⟨none,0,rfl,h2, [],rfl, .inl rfl⟩, .inl ⟨rfl,rfl,rfl⟩⟩
 · have hgl:=(Array.getElem?_eq_some_iff.1 hg).1
   refine⟨_,cap,rfl,hnc,fun w'' k1 k2=>⟨_,cap,rfl,h2,ns,h3 w'' k1 (fun p p1 p2 _=>k2 p p1 p2), .inr ⟨g,0,rfl,hgl,fun j u hu=> ?_⟩⟩, .inr ⟨g,rfl,hbg,hgl⟩⟩
   have h5:=h1'.cells (g:=g) rfl j u hu
   rw[add_plain']at h5
   exact(k2 _ hbg hgl).trans h5
end Go.Proofs.YtackmnbpfbaemaaGreatDoor

namespace Go.Proofs.YtackmnbpfbaemaaGreatDoor
open Go Go.RowKit
theorem reads_one {w:World} {g:Nat} {t:TypeId} {cs:Array Value} (h:Blk w g t cs):Reads w (g+1) cs.size (some ⟨g,0,none⟩) 1 cs.toList:=by
 refine⟨by simp,fun _=>⟨_,rfl,by simp,fun j u hu=> ?_⟩⟩
 rw[add_plain',Nat.zero_add]
 exact(h.cell j).trans (by rw[←Array.getElem?_toList];exact hu)
theorem RowD.lit {b:Nat} {t:TypeId} {w:World} {d:D} {cs:Array Value} (hb:b≤w.heap.size) (hd:d.cells=cs.size) (h: ∀w'' B,Holds w'' B d cs.toList):
 RowD b t cs.size (w.alloc (.cells cs t)) [d] (.slice (some ⟨w.heap.size,0,none⟩) 1 1):=
 ⟨cs.toList,World.ownsRow_lit w cs 1 hb (by simp[maxLen]) (by simp),fun x hx=>by simp at hx;rw[hx];exact hd,fun w'' _ _=>HoldsA.one (h w'' _)⟩
theorem RowD.slice {b:Nat} {t:TypeId} {s:Nat} {wr:World} {l:List D} {V:Value} (h:RowD b t s wr l V): ∃a c,V= .slice a l.length c:=by
 obtain⟨ns,h1,_⟩:=h
 rcases h1.2 with⟨rfl,h0⟩|⟨g,cap,cur,rfl,_⟩
 · exact⟨_,_,by rw[h0]⟩
 · exact⟨_,_,rfl⟩
theorem RowD.now {b:Nat} {t:TypeId} {s:Nat} {wr:World} {l:List D} {a:Option Addr} {n c:Nat} (h:RowD b t s wr l (.slice a n c)):Holds wr wr.heap.size (.row s l) [.slice a n c]:=by
 obtain⟨a',c',e,_,hf,_⟩:=h.close
 cases e
 exact hf.now
section
variable {P:Program}
theorem run_append_D {t ty e:TypeId} {i:TypeInfo} {z:Value} {sz bytes:Nat} (ht:P.underlying t=some (.slice e)) (hi:P.info? e=some i) (hz:i.zero=some z) (hsize:i.size=sz) (hby:i.bytes=bytes) (hzs:z.cells.size=sz) (hsz:0<sz)
 {b:Nat} {wr w:World} {l:List D} {V:Value} (hrow:RowD b e sz wr l V) (hbw:b≤wr.heap.size) (hbe:Below wr.heap.size wr w) {d:D} {cs:List Value} (hd:d.cells=sz) (hx:Fresh wr.heap.size w d cs)
 {B:Nat} {A:Option Addr} {c:Nat} (hr:Reads w B sz A 1 cs) (h63:l.length+1≤maxLen) (hbytes:(l.length+1)*bytes≤140737488355328):
 ∃V' w6,(Builtin.append_ #[t,t] ty #[V, .slice A 1 c]).run P w= .ok V' w6∧RowD b e sz w6 (l++ [d]) V'∧w.grownBy w6 V.ownBlock∧(V'.ownBlock=V.ownBlock∨V'.ownBlock=some w.heap.size):=by
 obtain⟨ns,h1,h2,h3⟩:=hrow.below hbe
 have h1r:=hrow
 obtain⟨ns0,k1,k2,k3⟩:=h1r
 have hown:w.ownsRow b e sz V l.length ns0:=by
  refine k1.kept (row:=none) ⟨hbe.os,hbe.tape,hbe.output,hbe.size,fun j hj _=>hbe.block j hj⟩ ?_
  cases hv:V.ownBlock<;>simp
 obtain⟨V',w6,hrun,g1,g2,g3⟩:=run_append_any (P:=P) w b t ty e i z sz bytes ht hi hz hsize hby hzs hsz V l.length ns0 hown B A 1 c cs hr hx.now.len.2 h63 hbytes (Nat.le_trans hbw hbe.size)
 refine⟨V',w6,hrun, ?_,g2,g3⟩
 refine RowD.step hbw k3 k2 hd hx (fun g hg=>(k1.lt g hg).2) g1 ?_ hbe.size g2.size (fun p _ p2=>hbe.cell p2) (fun p _ p2 p3=>World.cell?_of_block (g2.block p.block p2 (fun e=>p3 e.symm)))
 rcases g3 with g3|g3
 · exact .inl g3
 · exact .inr ⟨_,g3,Nat.le_refl _⟩
theorem wp_append_D {o:Oper} {a:Act} {K:Act→World→Prop} {Q:Exit→Act→World→Prop} (s x:Operand) (t:TypeId) {e:TypeId}
 (ho:o.op= .call {callee:= .builtin .append,args:= #[s,x],argTypes:= #[t,t]}) {i:TypeInfo} {z:Value} {sz bytes:Nat} (ht:P.underlying t=some (.slice e)) (hi:P.info? e=some i) (hz:i.zero=some z) (hsize:i.size=sz) (hby:i.bytes=bytes) (hzs:z.cells.size=sz) (hsz:0<sz)
 {b:Nat} {wr w:World} {l:List D} {V:Value} (hs:a.eval s=V) (hrow:RowD b e sz wr l V) (hbw:b≤wr.heap.size) (hbe:Below wr.heap.size wr w) {d:D} {cs:List Value} (hd:d.cells=sz) (hf:Fresh wr.heap.size w d cs)
 {B:Nat} {A:Option Addr} {c:Nat} (hx:a.eval x= .slice A 1 c) (hr:Reads w B sz A 1 cs) (h63:l.length+1≤maxLen) (hbytes:(l.length+1)*bytes≤140737488355328)
 (h: ∀V' w6,RowD b e sz w6 (l++ [d]) V'→w.grownBy w6 V.ownBlock→(V'.ownBlock=V.ownBlock∨V'.ownBlock=some w.heap.size)→K (a.put o.dst V') w6):o.wp P a w K Q:=by
 obtain⟨V',w6,hrun,g1,g2,g3⟩:=run_append_D (ty:=o.type) (c:=c) ht hi hz hsize hby hzs hsz hrow hbw hbe hd hf hr h63 hbytes
 unfold Oper.wp execOp
 simp only[ho,resolve,invoke,builtin,Sem.run_bind,Sem.run_pure,Result.andThen_ok,List.map_toArray,List.map_cons,List.map_nil,hs,hx,hrun]
 exact h V' w6 g1 g2 g3
theorem wpList_append_D {ops:Array Oper} {rest:List Oper} {o:Oper} {a:Act} {Q:Exit→Act→World→Prop} (hgd:o.guard=none) (s x:Operand) (t:TypeId) {e:TypeId}
 (ho:o.op= .call {callee:= .builtin .append,args:= #[s,x],argTypes:= #[t,t]}) {i:TypeInfo} {z:Value} {sz bytes:Nat} (ht:P.underlying t=some (.slice e)) (hi:P.info? e=some i) (hz:i.zero=some z) (hsize:i.size=sz) (hby:i.bytes=bytes) (hzs:z.cells.size=sz) (hsz:0<sz)
 {b:Nat} {wr w:World} {l:List D} {V:Value} (hs:a.eval s=V) (hrow:RowD b e sz wr l V) (hbw:b≤wr.heap.size) (hbe:Below wr.heap.size wr w) {d:D} {cs:List Value} (hd:d.cells=sz) (hf:Fresh wr.heap.size w d cs)
 {B:Nat} {A:Option Addr} {c:Nat} (hx:a.eval x= .slice A 1 c) (hr:Reads w B sz A 1 cs) (h63:l.length+1≤maxLen) (hbytes:(l.length+1)*bytes≤140737488355328)
 (h: ∀V' w6,RowD b e sz w6 (l++ [d]) V'→w.grownBy w6 V.ownBlock→(V'.ownBlock=V.ownBlock∨V'.ownBlock=some w.heap.size)→wpList P ops Q rest (a.put o.dst V') w6):wpList P ops Q (o::rest) a w:=
 wpList_plain hgd fun _ hK=>wp_append_D s x t ho ht hi hz hsize hby hzs hsz hs hrow hbw hbe hd hf hx hr h63 hbytes fun V' w6 h2 h3 h4=>hK _ _ (h V' w6 h2 h3 h4)
theorem step_append_D {ops:Array Oper} {o:Oper} {a:Act} {K:Act→World→Prop} {Q:Exit→Act→World→Prop} {E:Prop} (hgd:o.guard=none) (s x:Operand) (t:TypeId) {e:TypeId}
 (ho:o.op= .call {callee:= .builtin .append,args:= #[s,x],argTypes:= #[t,t]}) {i:TypeInfo} {z:Value} {sz bytes:Nat} (ht:P.underlying t=some (.slice e)) (hi:P.info? e=some i) (hz:i.zero=some z) (hsize:i.size=sz) (hby:i.bytes=bytes) (hzs:z.cells.size=sz) (hsz:0<sz)
 {b:Nat} {wr w:World} {l:List D} {V:Value} (hs:a.eval s=V) (hrow:RowD b e sz wr l V) (hbw:b≤wr.heap.size) (hbe:Below wr.heap.size wr w) {d:D} {cs:List Value} (hd:d.cells=sz) (hf:Fresh wr.heap.size w d cs)
 {B:Nat} {A:Option Addr} {c:Nat} (hx:a.eval x= .slice A 1 c) (hr:Reads w B sz A 1 cs) (h63:l.length+1≤maxLen) (hbytes:(l.length+1)*bytes≤140737488355328)
 (h: ∀V' w6,RowD b e sz w6 (l++ [d]) V'→w.grownBy w6 V.ownBlock→(V'.ownBlock=V.ownBlock∨V'.ownBlock=some w.heap.size)→K (a.put o.dst V') w6):
 if Region.wanted o (yielded ops a.tmps)=true then Oper.wp P o a w K Q else E:=by
 have hw:Region.wanted o (yielded ops a.tmps)=true:=by simp[Region.wanted,hgd]
 rw[if_pos hw]
 exact wp_append_D s x t ho ht hi hz hsize hby hzs hsz hs hrow hbw hbe hd hf hx hr h63 hbytes h
end
end Go.Proofs.YtackmnbpfbaemaaGreatDoor

namespace Go.Proofs.YtackmnbpfbaemaaGreatDoor
open Go Go.RowKit
structure MKey {α:Type} [DecidableEq α] (P:Program) (kt:TypeId) (f:α→Value):Prop where
 under: ∃d,P.underlying kt=some d∧ ∀a b,Instr.sameNow d (f a) (f b)=some (decide (a=b))
 check: ∀e w a,(Instr.checkKey e 10000 kt (f a)).run P w= .ok () w
theorem ba_beq (a b:ByteArray):(a==b)=decide (a=b):=by
 obtain⟨a⟩:=a
 obtain⟨b⟩:=b
 have h:((⟨a⟩:ByteArray)==⟨b⟩)=(a==b):=rfl
 rw[h]
 by_cases e:a=b<;>simp[e]
theorem mkey_string {P:Program} {kt:TypeId} (h:P.underlying kt=some .string):MKey P kt Value.string:=by
 refine⟨⟨_,h,fun a b=> ?_⟩,fun e w a=> ?_⟩
 · simp only[Instr.sameNow]
   congr 1
   exact ba_beq a b
 · have key: ∀n,(Instr.checkKey e (n+1) kt (.string a)).run P w= .ok () w:=fun n=>by simp[Instr.checkKey,run_underlying h]
   exact key 9999
theorem mkey_int {P:Program} {kt:TypeId} {q:IntKind} (h:P.underlying kt=some (.int q)):MKey P kt (Value.int q):=by
 refine⟨⟨_,h,fun a b=> ?_⟩,fun e w a=> ?_⟩
 · simp only[Instr.sameNow,if_true]
   congr 1
 · have key: ∀n,(Instr.checkKey e (n+1) kt (.int q a)).run P w= .ok () w:=fun n=>by simp[Instr.checkKey,run_underlying h]
   exact key 9999
section
variable {α:Type}
def entsM (f:α→Value):List (α×Value)→Nat→List MapEntry
 | [],_=> []
 |(k,v)::r,i=>{key:=f k,val:=v,born:=i}::entsM f r (i+1)
def MapAt (f:α→Value) (w:World) (g:Nat) (kv:List (α×Value)):Prop:=w.heap[g]? =some (.map (entsM f kv 0).toArray kv.length)
def findM [DecidableEq α] (a:α):List (α×Value)→Option Value
 | []=>none
 |(k,v)::r=>if a=k then some v else findM a r
variable {f:α→Value} {P:Program} {kt et t:TypeId} {w w':World} {g:Nat} {kv:List (α×Value)}
theorem entsM_append: ∀(kv:List (α×Value)) (i:Nat) (k:α) (v:Value),entsM f (kv++ [(k,v)]) i=entsM f kv i++ [{key:=f k,val:=v,born:=i+kv.length}]
 | [],i,k,v=>by simp[entsM]
 |(a,b)::r,i,k,v=>by
  simp only[List.cons_append,entsM,entsM_append r,List.length_cons]
  rw[show i+1+r.length=i+(r.length+1)from by omega]
theorem MapAt.lt (h:MapAt f w g kv):g<w.heap.size:=by
 rcases Nat.lt_or_ge g w.heap.size with h1|h1
 · exact h1
 · unfold MapAt at h;rw[Array.getElem?_eq_none h1]at h;cases h
theorem MapAt.keep (h:MapAt f w g kv) (hk:w'.heap[g]? =w.heap[g]?):MapAt f w' g kv:=hk.trans h
theorem MapAt.below {B:Nat} (h:MapAt f w g kv) (hb:Below B w w') (hg:g<B):MapAt f w' g kv:=(hb.block g hg).trans h
theorem MapAt.alloc (h:MapAt f w g kv) (o:Obj):MapAt f (w.alloc o) g kv:=(Below.heap_alloc w o g h.lt).trans h
theorem MapAt.new (w:World):MapAt f (w.alloc (.map #[] 0)) w.heap.size []:=heap_alloc_new w _
theorem MapAt.setCell (h:MapAt f w g kv) {p:Addr} (hp:g≠p.block) (u:Value):MapAt f (w.setCell p u) g kv:=(Below.heap_setCell w p u g hp).trans h
variable [DecidableEq α]
theorem findNow_M {d:TypeDesc} (hd: ∀a b,Instr.sameNow d (f a) (f b)=some (decide (a=b))) (a:α): ∀(kv:List (α×Value)) (i j:Nat),∃q,Instr.findNow d (f a) (entsM f kv i) j=some q∧q.map (·.2)=findM a kv
 | [],_,_=>⟨none,rfl,rfl⟩
 |(k,v)::r,i,j=>by
  by_cases h:a=k
  · exact⟨some (j,v),by simp[entsM,Instr.findNow,hd,h],by simp[findM,h]⟩
  · obtain⟨q,h1,h2⟩:=findNow_M hd a r (i+1) (j+1)
    exact⟨q,by simp[entsM,Instr.findNow,hd,h,h1],by rw[h2];simp[findM,h]⟩
theorem run_insertM (K:MKey P kt f) (ht:P.underlying t=some (.map kt et)) (h:MapAt f w g kv) {a:α} (hn:findM a kv=none) (v:Value):
 ∃w',(Instr.mapUpdate t (.map (some g)) (f a) v).run P w= .ok () w'∧MapAt f w' g (kv++ [(a,v)])∧w.grownBy w' (some g)∧w'.heap.size=w.heap.size:=by
 obtain⟨d,hd,hs⟩:=K.under
 obtain⟨q,h1,h2⟩:=findNow_M hs a kv 0 0
 rw[hn]at h2
 have hq:q=none:=by cases q<;>simp_all
 subst hq
 have hck:=K.check false w a
 have hfk:(Instr.findKey kt (f a) (entsM f kv 0)).run P w= .ok none w:=by simp[Instr.findKey,Sem.run_bind,run_underlying hd,h1]
 have hlt:=h.lt
 refine⟨{w with heap:=w.heap.setIfInBounds g (.map ((entsM f kv 0).toArray.push {key:=f a,val:=v,born:=kv.length}) (kv.length+1))}, ?_, ?_, ?_, ?_⟩
 · have hb:w.heap[g]? =some (.map (entsM f kv 0).toArray kv.length):=h
   unfold Instr.mapUpdate
   simp only[Sem.run_bind,run_underlying ht,Result.andThen,getObj,Sem.run,hb,hck,hfk,setObj]
 · unfold MapAt
   simp[hlt,entsM_append]
 · exact⟨rfl,rfl,rfl,by simp,fun k hk hne=>by simp only[Array.getElem?_setIfInBounds];rw[if_neg];rintro rfl;exact hne rfl⟩
 · simp
theorem wpList_insertM {ops:Array Oper} {rest:List Oper} {o:Oper} {a:Act} {Q:Exit→Act→World→Prop} (hg:o.guard=none) (m x u:Operand) (t:TypeId) (hop:o.op=Op.insert t m x u)
 (K:MKey P kt f) (ht:P.underlying t=some (.map kt et)) (hm:a.eval m= .map (some g)) (h:MapAt f w g kv) {k:α} {v:Value} (hx:a.eval x=f k) (hv:a.eval u=v) (hn:findM k kv=none)
 (hK: ∀w',MapAt f w' g (kv++ [(k,v)])→w.grownBy w' (some g)→w'.heap.size=w.heap.size→wpList P ops Q rest (a.put o.dst undef) w'):wpList P ops Q (o::rest) a w:=by
 refine wpList_plain hg fun K' hK'=> ?_
 obtain⟨w',hrun,r1,r2,r3⟩:=run_insertM K ht h hn v
 unfold Oper.wp
 simp[execOp,hop,hm,hx,hv,hrun,Result.andThen]
 exact hK' _ _ (hK w' r1 r2 r3)
theorem run_lookM (K:MKey P kt f) (ht:P.underlying t=some (.map kt et)) (h:MapAt f w g kv) (a:α) {z:Value} (hz: ∀w,(zeroValue et).run P w= .ok z w) (c:Bool):
 (Instr.lookup t (.map (some g)) (f a) c).run P w= .ok (if c then .tuple #[(findM a kv).getD z, .bool (findM a kv).isSome]else(findM a kv).getD z) w:=by
 obtain⟨d,hd,hs⟩:=K.under
 obtain⟨q,h1,h2⟩:=findNow_M hs a kv 0 0
 have hck:=fun e=>K.check e w a
 have hfk:(Instr.findKey kt (f a) (entsM f kv 0)).run P w= .ok q w:=by simp[Instr.findKey,Sem.run_bind,run_underlying hd,h1]
 have hb:w.heap[g]? =some (.map (entsM f kv 0).toArray kv.length):=h
 unfold Instr.lookup
 simp only[Sem.run_bind,run_underlying ht,Result.andThen,getObj,Sem.run,hb]
 cases q with
 |none=>
  have:findM a kv=none:=by cases hq:findM a kv<;>simp_all
  rw[this]
  cases c<;>simp[hck,hfk,hz w,Result.andThen]
 |some p=>
  obtain⟨i,v⟩:=p
  have:findM a kv=some v:=by rw[←h2];rfl
  rw[this]
  cases c<;>simp[hck,hfk]
end
end Go.Proofs.YtackmnbpfbaemaaGreatDoor

namespace Go.Proofs.YtackmnbpfbaemaaGreatDoor
open Go.RowKit
attribute [local go_sem] Oper.semAt_some
set_option maxRecDepth 100000 in
set_option maxHeartbeats 2000000 in
theorem runes_stops (s:ByteArray) (b:Nat) (hs:s.size≤1000000000):
 YieldsS Tryz.prog 218 #[.pointer (some ⟨b,0,none⟩)] (fun x:Nat×Nat=> #[.int .i64 x.1, .int .i32 x.2]) (runes s) (fun A=>A.cell? ⟨b,0,none⟩=some (.string s)∧Tabs A):=by
 intro n l J Jx W hJn hJx hJb hY h0
 refine callsIn_of_wp Tryz.func218 rfl trivial ?_ rfl
 simp only[Tryz.ntmps218,List.size_toArray,List.length_cons,List.length_nil,Nat.reduceAdd,Nat.reduceSub,Array.replicate_succ,Array.replicate_zero,List.push_toArray,List.append_toArray,List.nil_append,List.cons_append]
 gi_wp2
 gi_loopw [3] (fun i wr=> ∃(pre:List (Nat×Nat)) (f k:Nat),i= .int .i64 k∧k≤s.size∧s.size - k≤f∧Hid (runes s=pre++runesFrom f (s.data.toList.drop k) k)∧J pre wr) (fun i _=>s.size - (intOf i).toNat)
 case atStart=>exact⟨[],s.size,0,rfl,Nat.zero_le _,by omega,rfl,h0⟩
 case round=>
  obtain⟨pre,f,k,rfl,hk,hf,hr,hJ⟩:=hrel
  have hcr:wr.cell? ⟨b,0,none⟩=some (.string s):=(hJb _ _ hJ).1
  have hTr:Tabs wr:=(hJb _ _ hJ).2
  by_cases hlt:k<s.size
  · have hne:s.data.toList.drop k≠ []:=by
     intro e
     have:=congrArg List.length e
     rw[List.length_drop,←Lib.size_eq]at this
     simp at this
     omega
    obtain⟨f,rfl⟩: ∃f',f=f'+1:=⟨f - 1,by omega⟩
    have cD:=Tryz.utf8_DecodeRuneInString (s.extract k s.size) wr hTr.2.1
    have hdc:Lib.decodeGo (s.extract k s.size)=Lib.decodeL (s.data.toList.drop k):=decode_tail s k hlt
    have hw1:=Lib.decodeL_width (s.data.toList.drop k)
    have hw2:=Lib.decodeL_le _ hne
    have hw3:=Lib.decodeL_rune (s.data.toList.drop k)
    rw[List.length_drop,←Lib.size_eq]at hw2
    have hr':=hr.out
    simp only[runesFrom]at hr'
    rw[if_neg hne,List.drop_drop]at hr'
    rw[hdc]at cD
    generalize Lib.decodeL (s.data.toList.drop k)=D at cD hw1 hw2 hw3 hr'
    obtain⟨r,z⟩:=D
    simp only at cD hw1 hw2 hw3 hr'
    have CD:=Lib.hid cD
    clear cD hdc hne hr
    by_cases hbad:r=65533∧z=1
    · rw[if_pos hbad,List.append_nil]at hr'
      have Hr:=Lib.hid hr'
      obtain⟨hr1,hz1⟩:=hbad
      have e1:((r:Int)==65533)=true:=by simp;omega
      have e2:((z:Int)==1)=true:=by simp;omega
      clear hr' hr1 hz1
      gi_wp2_with (refine⟨trivial, ?_⟩;gi_at_call 219;refine(callsIn_wide.2 CD.out).mono ?_;rintro e w2 ⟨rfl,hb2⟩;have hJ2:=hJn _ _ _ hJ hb2)
      refine bodyPost_ret (results_none rfl _ _ _) rfl ?_
      exact⟨⟨_,rfl⟩, .inl (by rw[Hr.out];exact hJ2)⟩
    · rw[if_neg hbad]at hr'
      have Hr:=Lib.hid hr'
      have Hr2:Hid (runes s=(pre++ [(k,r)])++runesFrom f (s.data.toList.drop (k+z)) (k+z)):=by
       show runes s=_
       rw[hr'];simp
      clear hr'
      rcases(by omega:r≠65533∨(r=65533∧z≠1))with h1|⟨h1,h2⟩
      · have e1:((r:Int)==65533)=false:=by simp;omega
        clear h1 hbad
        gi_wp2_with (refine⟨trivial, ?_⟩;gi_at_call 219;refine(callsIn_wide.2 CD.out).mono ?_;rintro e w2 ⟨rfl,hb2⟩;obtain⟨fn,tmps,assign,body,hy,hR⟩:=hY pre (k,r) _ w2 Hr.out (hJn _ _ _ hJ hb2);dsimp only at hy)
        refine hR.mono ?_
        rintro e W3 (⟨rfl,hJ3⟩|⟨rfl,hJ3⟩)
        rotate_left
        · clear hy hR
          gi_wp2
          refine bodyPost_ret (results_none rfl _ _ _) rfl ?_
          exact⟨⟨_,rfl⟩, .inr hJ3⟩
        clear hy hR
        gi_wp2
        go_roundw
        case rel=>exact⟨pre++ [(k,r)],f,k+z,by go_num,by omega,by omega,Hr2,hJ3⟩
        case measure=>simp[intOf];omega
      · have e1:((r:Int)==65533)=true:=by simp;omega
        have e2:((z:Int)==1)=false:=by simp;omega
        clear h1 h2 hbad
        gi_wp2_with (refine⟨trivial, ?_⟩;gi_at_call 219;refine(callsIn_wide.2 CD.out).mono ?_;rintro e w2 ⟨rfl,hb2⟩;obtain⟨fn,tmps,assign,body,hy,hR⟩:=hY pre (k,r) _ w2 Hr.out (hJn _ _ _ hJ hb2);dsimp only at hy)
        refine hR.mono ?_
        rintro e W3 (⟨rfl,hJ3⟩|⟨rfl,hJ3⟩)
        rotate_left
        · clear hy hR
          gi_wp2
          refine bodyPost_ret (results_none rfl _ _ _) rfl ?_
          exact⟨⟨_,rfl⟩, .inr hJ3⟩
        clear hy hR
        gi_wp2
        go_roundw
        case rel=>exact⟨pre++ [(k,r)],f,k+z,by go_num,by omega,by omega,Hr2,hJ3⟩
        case measure=>simp[intOf];omega
  · obtain rfl:k=s.size:=by omega
    have hr':=hr.out
    rw[List.drop_eq_nil_of_le (by rw[←Lib.size_eq];omega)]at hr'
    have hz:runesFrom f [] s.size= []:=by cases f<;>simp[runesFrom]
    rw[hz,List.append_nil]at hr'
    have Hr:=Lib.hid hr'
    clear hr hr'
    gi_wp2
    go_end0
    exact⟨⟨_,rfl⟩, .inl (by rw[Hr.out];exact hJ)⟩
end Go.Proofs.YtackmnbpfbaemaaGreatDoor
