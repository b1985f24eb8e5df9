/- Parts: strings.Builder wherever it lies (a block of its own, or a field of a struct that the call made): its methods' contracts. Condition: at most 2^47 bytes. -/
import Derived.Test.YtjgfchcldhmjcaaGreatDoorZPpShelf
import Derived.Lib.OthersKept
import Derived.Lib.FrozenHead2
import Derived.Shelf.Strings.BuilderK
import Derived.Test.YtjgfchcldhmjcaaGreatDoorKPp1
import Derived.Test.YtjgfchcldhmjcaaGreatDoorKPp2
set_option maxHeartbeats 20000000
set_option maxRecDepth 100000
namespace Go.Proofs.YtjgfchcldhmjcaaGreatDoor
open Go Go.RowKit
theorem De (g a i:Nat):(⟨g,a,none⟩:Addr).add i=⟨g,a+i,none⟩:=Go.WideShapes.add_plain g a i
theorem Ag.reads {w:World} {B s:Nat} {l:List D} {a:Option Addr} {n c:Nat} (h:Ag w B (.row s l) [.slice a n c]): ∃ns,Bt w B s a n ns/\Ah w B l ns/\ ∀u ∈ ns,u.oneCell'=true:=by
 have r:=h.row_len;obtain⟨p,q,e,k,ns,b,d⟩:=h;simp only[List.cons.injEq,Value.slice.injEq,and_true]at e;obtain⟨rfl,rfl,rfl⟩:=e;refine⟨ns,⟨by rw[b.len.1,Ge k],fun h0=> ?_⟩,b,b.len.2⟩;rcases d with rfl|⟨g,o,e,i,f⟩
 . simp at h0
 . exact⟨_,e,i,fun j u m=>by rw[De];exact f j u m⟩
def C3 (b:Nat) (t:TypeId) (s:Nat) (wr:World) (l:List D) (V:Value):Prop:=
 ∃ns,wr.ownsRow b t s V l.length ns/\(∀d ∈ l,d.cells=s)/\ ∀w'':World,wr.heap.size<=w''.heap.size->
  (∀p:Addr,b<=p.block->p.block<wr.heap.size->V.ownBlock≠some p.block->w''.cell? p=wr.cell? p)->Ah w'' wr.heap.size l ns
theorem C3.nil (b:Nat) (t:TypeId) (s:Nat) (wr:World):C3 b t s wr [] (.slice none 0 0):=⟨[],World.ownsRow_nil _ _ _ _,fun d a=>(by cases a),fun _ _ _=>rfl⟩
theorem C3.base {b:Nat} {t:TypeId} {s:Nat} {wr:World} {l:List D} {V:Value} (h:C3 b t s wr l V): ∀g,V.ownBlock=some g->b<=g/\g<wr.heap.size:=by
 obtain⟨ns,a,_⟩:=h;exact a.lt
theorem C3.keep {b:Nat} {t:TypeId} {s:Nat} {wr w':World} {l:List D} {V:Value} (h:C3 b t s wr l V) (k:wr.heap.size<=w'.heap.size) (d: ∀i,b<=i->i<wr.heap.size->w'.heap[i]? =wr.heap[i]?):C3 b t s w' l V:=by
 obtain⟨ns,c,f,j⟩:=h;refine⟨ns,⟨c.1, ?_⟩,f,fun a q m=>Ah.more (j a (by omega) (fun p e n o=>(m p e (by omega) o).trans (World.cell?_of_block (d p.block e n)))) k⟩;rcases c.2 with⟨rfl,h0⟩|⟨g,cap,cur,rfl,hbg,hg,h5⟩
 . exact .inl ⟨rfl,h0⟩
 . exact .inr ⟨g,cap,cur,rfl,hbg,(d g hbg (Array.getElem?_eq_some_iff.1 hg).1).trans hg,h5⟩
theorem C3.below {b:Nat} {t:TypeId} {s:Nat} {wr w':World} {l:List D} {V:Value} (h:C3 b t s wr l V) (a:Below wr.heap.size wr w'):C3 b t s w' l V:=h.keep a.size fun i _ c=>a.block i c
theorem C3.step {b:Nat} {t:TypeId} {s:Nat} {wr w4 w6:World} {l:List D} {V V':Value} {d:D} {cs ns:List Value} (A:b<=wr.heap.size)
 (q: ∀a:World,wr.heap.size<=a.heap.size->(∀p:Addr,b<=p.block->p.block<wr.heap.size->V.ownBlock≠some p.block->a.cell? p=wr.cell? p)->Ah a wr.heap.size l ns)
 (j: ∀d ∈ l,d.cells=s) (B:d.cells=s) (F:A7 wr.heap.size w4 d cs) (o: ∀g,V.ownBlock=some g->g<wr.heap.size)
 (k:w6.ownsRow b t s V' (l.length+1) (ns++cs)) (z:V'.ownBlock=V.ownBlock\/ ∃N,V'.ownBlock=some N/\w4.heap.size<=N)
 (C:wr.heap.size<=w4.heap.size) (r:w4.heap.size<=w6.heap.size) (y: ∀p:Addr,b<=p.block->p.block<wr.heap.size->w4.cell? p=wr.cell? p)
 (u: ∀p:Addr,b<=p.block->p.block<w4.heap.size->V.ownBlock≠some p.block->w6.cell? p=w4.cell? p):C3 b t s w6 (l++ [d]) V':=by
 refine⟨ns++cs,by rw[List.length_append];exact k, ?_,fun a E i=> ?_⟩
 . intro x c;rcases List.mem_append.1 c with c|c
   . exact j x c
   . simp only[List.mem_cons,List.not_mem_nil,or_false]at c;rw[c];exact B
 . have f: ∀p:Addr,p.block<w4.heap.size->V.ownBlock≠some p.block->V'.ownBlock≠some p.block:=by
    intro p m h;rcases z with e|⟨N,e,hN⟩
    . rw[e];exact h
    . rw[e];intro w;have:=Option.some.inj w;omega
   have a1:Ah a w6.heap.size l ns:=Ah.more (q a (by omega) (fun p n m h=>by
    rw[i p n (by omega) (f p (by omega) h),u p n (by omega) h,y p n m])) (by omega)
   have v:Ag a w6.heap.size d cs:=Ag.more (F a (by omega) (fun p n m=>by
    have h:V.ownBlock≠some p.block:=fun e=>by have:=o _ e;omega
    rw[i p (by omega) (by omega) (f p m h),u p (by omega) m h])) r
   exact a1.snoc v
theorem C3.close {b:Nat} {t:TypeId} {s:Nat} {wr:World} {l:List D} {V:Value} (h:C3 b t s wr l V):
 ∃a c,V=.slice a l.length c/\l.length<=c/\A7 b wr (.row s l) [.slice a l.length c]/\((l= []/\a=none/\c=0)\/ ∃g,a=some ⟨g,0,none⟩/\b<=g/\g<wr.heap.size):=by
 obtain⟨ns,i,k,o⟩:=h;have e:=i;rcases i.2 with⟨rfl,h0⟩|⟨g,cap,cur,rfl,hbg,hg,hnc,_⟩
 . have q:l= []:=List.eq_nil_of_length_eq_zero h0;subst q;exact⟨none,0,rfl,Nat.le_refl _,fun _ _ _=>⟨none,0,rfl,k, [],rfl,.inl rfl⟩,.inl ⟨rfl,rfl,rfl⟩⟩
 . have d:=(Array.getElem?_eq_some_iff.1 hg).1;refine⟨_,cap,rfl,hnc,fun f v n=>⟨_,cap,rfl,k,ns,o f v (fun p w x _=>n p w x),.inr ⟨g,0,rfl,d,fun j u r=> ?_⟩⟩,.inr ⟨g,rfl,hbg,d⟩⟩;have m:=e.cells (g:=g) rfl j u r;rw[De]at m;exact(n _ hbg d).trans m
def A4 (w:World) (g o:Nat):List Value->World
 | []=>w
 |v::r=>A4 (w.setCell ⟨g,o,none⟩ v) g (o+1) r
def R6 (cs:Array Value) (o:Nat):List Value->Array Value
 | []=>cs
 |v::r=>R6 (cs.setIfInBounds o v) (o+1) r
theorem Ba: ∀(vs:List Value) (w:World) (g o:Nat),(A4 w g o vs).heap.size=w.heap.size
 | [],_,_,_=>rfl
 |v::r,w,g,o=>by simp only[A4];rw[Ba r];simp[World.setCell]
theorem Ay: ∀(vs:List Value) (w:World) (g o c:Nat),c≠g->(A4 w g o vs).heap[c]? =w.heap[c]?
 | [],_,_,_,_,_=>rfl
 |v::r,w,g,o,c,h=>by
  simp only[A4];rw[Ay r _ _ _ _ h];simp only[World.setCell,Array.getElem?_modify];rw[if_neg (fun e=>h e.symm)]
theorem Lm: ∀(vs:List Value) {w:World} {g o:Nat} {cs:Array Value} {t:TypeId},w.heap[g]? =some (.cells cs t (0,0))->(A4 w g o vs).heap[g]? =some (.cells (R6 cs o vs) t (0,0))
 | [],_,_,_,_,_,h=>h
 |v::r,w,g,o,cs,t,h=>by
  simp only[A4,R6];exact Lm r (by simp[World.setCell,Array.getElem?_modify,h])
theorem As {B:Nat} {a:World}: ∀(vs:List Value) {w:World} {g o:Nat},Below B a w->B<=g->Below B a (A4 w g o vs)
 | [],_,_,_,h,_=>h
 |v::r,w,g,o,h,hg=>by
  simp only[A4];exact As r (h.setCell hg _) hg
theorem Qe: ∀(vs:List Value) (cs:Array Value) (o:Nat),(R6 cs o vs).size=cs.size
 | [],_,_=>rfl
 |v::r,cs,o=>by simp only[R6];rw[Qe r];simp
theorem Pg: ∀(vs:List Value) (cs:Array Value) (o i:Nat),o+vs.length<=cs.size->(R6 cs o vs)[i]? =if o<=i/\i<o+vs.length then vs[i - o]? else cs[i]?
 | [],cs,o,i,_=>by
   simp only[R6,List.length_nil];rw[if_neg (by omega)]
 |v::r,cs,o,i,h=>by
  simp only[List.length_cons]at h;simp only[R6];rw[Pg r _ _ _ (by simp;omega)];by_cases a:o+1<=i/\i<o+1+r.length
  . rw[if_pos a,if_pos ⟨by omega,by simp only[List.length_cons];omega⟩,show i - o=(i - (o+1))+1 from by omega,List.getElem?_cons_succ]
  . rw[if_neg a];by_cases b:i=o
    . subst b;rw[if_pos ⟨Nat.le_refl _,by simp⟩];simp only[Nat.sub_self,List.getElem?_cons_zero];rw[Array.getElem?_setIfInBounds_self_of_lt (by omega)]
    . rw[if_neg (by simp only[List.length_cons];omega),Array.getElem?_setIfInBounds_ne (by omega)]
def Ew (b g:Nat) (t:TypeId) (s N:Nat) (wr:World) (l:List D):Prop:=
 b<=g/\l.length<=N/\(∀d ∈ l,d.cells=s)/\ ∃(cs:Array Value) (ns:List Value),wr.heap[g]? =some (.cells cs t (0,0))/\cs.size=N*s/\(∀(j:Nat) (u:Value),ns[j]? =some u->cs[j]? =some u)/\
  ∀w'':World,wr.heap.size<=w''.heap.size->(∀p:Addr,b<=p.block->p.block<wr.heap.size->p.block≠g->w''.cell? p=wr.cell? p)->Ah w'' wr.heap.size l ns
theorem Ew.start {b g:Nat} {t:TypeId} {s N:Nat} {wr:World} {cs:Array Value} (a:b<=g) (e:wr.heap[g]? =some (.cells cs t (0,0))) (f:cs.size=N*s):Ew b g t s N wr []:=
 ⟨a,Nat.zero_le _,fun d c=>(by cases c),cs, [],e,f,fun j u h=>(by simp at h),fun _ _ _=>rfl⟩
theorem Ew.lt {b g:Nat} {t:TypeId} {s N:Nat} {wr:World} {l:List D} (h:Ew b g t s N wr l):g<wr.heap.size:=by
 obtain⟨_,_,_,cs,ns,a,_⟩:=h;exact(Array.getElem?_eq_some_iff.1 a).1
theorem Ew.cell {b g:Nat} {t:TypeId} {s N:Nat} {wr:World} {l:List D} (h:Ew b g t s N wr l):(∀j,j<N*s-> ∃u,wr.cell? ⟨g,j,none⟩=some u)/\ ∀j,wr.frozen? ⟨g,j,none⟩=false:=by
 obtain⟨_,_,_,cs,ns,a,c,_⟩:=h;refine⟨fun j d=> ?_,fun j=> ?_⟩
 . exact⟨cs[j],by rw[cell_of_row wr g j cs t (0,0) a];exact Array.getElem?_eq_getElem (by omega)⟩
 . simp[World.frozen?,a]
theorem Ew.keep {b g:Nat} {t:TypeId} {s N:Nat} {wr w':World} {l:List D} (h:Ew b g t s N wr l) (r:wr.heap.size<=w'.heap.size) (e: ∀i,b<=i->i<wr.heap.size->w'.heap[i]? =wr.heap[i]?):Ew b g t s N w' l:=by
 have a:=h.lt;obtain⟨d,j,k,cs,ns,m,n,o,q⟩:=h;exact⟨d,j,k,cs,ns,(e g d a).trans m,n,o,fun c x u=>Ah.more (q c (by omega) (fun p f v w=>(u p f (by omega) w).trans (World.cell?_of_block (e p.block f v)))) r⟩
theorem Ew.below {b g:Nat} {t:TypeId} {s N:Nat} {wr w':World} {l:List D} (h:Ew b g t s N wr l) (a:Below wr.heap.size wr w'):Ew b g t s N w' l:=h.keep a.size fun i _ c=>a.block i c
theorem Ew.step {b g:Nat} {t:TypeId} {s N:Nat} {wr w4:World} {l:List D} {d:D} {a:List Value} (h:Ew b g t s N wr l) (O:l.length<N) (w:d.cells=s) (y:A7 wr.heap.size w4 d a) (r:Below wr.heap.size wr w4):
 Ew b g t s N (A4 w4 g (l.length*s) a) (l++ [d]):=by
 have J:=h.lt;have C:=h.below r;obtain⟨E,M,q,cs,ns,L,F,G,v⟩:=C;have I:a.length=s:=y.now.len.1.trans w;have m:ns.length=l.length*s:=by
  have H:=v w4 (Nat.le_refl _) (fun _ _ _ _=>rfl);rw[H.len.1,Ge q]
 have hN:l.length*s+s<=N*s:=by
  have:=Nat.mul_le_mul_right s (show l.length+1<=N by omega);rw[Nat.add_mul,Nat.one_mul]at this;exact this
 have K:=r.size;refine⟨E,by rw[List.length_append,List.length_cons,List.length_nil];omega, ?_,R6 cs (l.length*s) a,ns++a,Lm a L,by rw[Qe];exact F, ?_, ?_⟩
 . intro x c;rcases List.mem_append.1 c with c|c
   . exact q x c
   . simp only[List.mem_cons,List.not_mem_nil,or_false]at c;rw[c];exact w
 . intro j u i;rw[Pg a cs (l.length*s) j (by omega)];by_cases k:j<ns.length
   . rw[List.getElem?_append_left k]at i;rw[if_neg (by omega)];exact G j u i
   . rw[List.getElem?_append_right (by omega)]at i;have:=(List.getElem?_eq_some_iff.1 i).1;rw[if_pos ⟨by omega,by omega⟩,<-m];exact i
 . intro f n z;rw[Ba]at n z ⊢;have e: ∀p:Addr,b<=p.block->p.block<w4.heap.size->p.block≠g->f.cell? p=w4.cell? p:=fun p A o B=>(z p A o B).trans (World.cell?_of_block (Ay a w4 g _ _ B));exact(v f n e).snoc (y f n (fun p A o=>e p (by omega) o (by omega)))
theorem Ew.close {b g:Nat} {t:TypeId} {s:Nat} {wr:World} {l:List D} (h:Ew b g t s l.length wr l) (c:Nat):A7 b wr (.row s l) [.slice (some ⟨g,0,none⟩) l.length c]:=by
 have a:=h.lt;obtain⟨f,w,i,cs,ns,k,x,m,n⟩:=h;intro d q e;refine⟨_,c,rfl,i,ns,n d q (fun p r v _=>e p r v),.inr ⟨g,0,rfl,a,fun j u o=> ?_⟩⟩;rw[e _ f a,Nat.zero_add,cell_of_row wr g j cs t (0,0) k];exact m j u o
end Go.Proofs.YtjgfchcldhmjcaaGreatDoor
namespace Go.Proofs.YtjgfchcldhmjcaaGreatDoor
open Go.RowKit Go.Shelf
def Om (w:World) (B g o:Nat) (t:TypeId) (cs:Array Value) (bs:List UInt8):Prop:=
 B<=g/\w.heap[g]? =some (.cells cs t (0,0))/\t≠5/\o+1<cs.size/\(cs[o]? =some (.pointer none)\/cs[o]? =some (.pointer (some ⟨g,o,none⟩)))/\
  ∃v,cs[o+1]? =some v/\w.ownsRow B 5 1 v bs.length (Lib.byteCells bs)
def Nw (g o:Nat) (cs:Array Value) (v:Value):Array Value:=(cs.setIfInBounds o (.pointer (some ⟨g,o,none⟩))).setIfInBounds (o+1) v
theorem Om.lt {w:World} {B g o:Nat} {t:TypeId} {cs:Array Value} {b:List UInt8} (h:Om w B g o t cs b):g<w.heap.size:=by
 rcases Nat.lt_or_ge g w.heap.size with a|a
 . exact a
 . have:=h.2.1;simp[Array.getElem?_eq_none a]at this
abbrev Fd (g:Nat) (w w':World):Prop:=Lib.OthersKept 5 (some g) w w'
theorem Cg {w:World} {g i:Nat} {cs:Array Value} {t:TypeId} (h:w.heap[g]? =some (.cells cs t (0,0))) (u:Value):(w.setCell ⟨g,i,none⟩ u).heap[g]? =some (.cells (cs.setIfInBounds i u) t (0,0)):=by
 simp[World.setCell,Array.getElem?_modify,h]
theorem Om.used {w:World} {B g o:Nat} {t:TypeId} {cs:Array Value} {b:List UInt8} (h:Om w B g o t cs b):
 Om (w.setCell ⟨g,o,none⟩ (.pointer (some ⟨g,o,none⟩))) B g o t (cs.setIfInBounds o (.pointer (some ⟨g,o,none⟩))) b:=by
 obtain⟨i,c,d,l,h0,v,f,a⟩:=h;refine⟨i,Cg c _,d,by simpa using l,.inr (by rw[Array.getElem?_setIfInBounds_self_of_lt (by omega)]),v,by rw[Array.getElem?_setIfInBounds,if_neg (by omega)];exact f, ?_⟩;exact a.kept (row:=some g) ⟨rfl,rfl,rfl,by simp[World.setCell],fun k _ j=>Below.heap_setCell _ _ _ _ (fun e=>j (by simp[e]))⟩ (Or.inr (Lib.ownBlock_ne a c d))
theorem Iy (B g o:Nat) (t:TypeId) (cs:Array Value) (k:List UInt8) (w:World) (h:Om w B g o t cs k) (q:liesAt Tryz.prog Tryz.prog.depth t (cs.size / Tryz.prog.cellsOf t) o 114 1=true):
 Calls Tryz.prog 261 #[.pointer (some ⟨g,o,none⟩)] w fun e w'=>e=.returned (.tuple #[])/\Om w' B g o t (cs.setIfInBounds o (.pointer (some ⟨g,o,none⟩))) k/\Below B w w'/\Fd g w w':=by
 have x:=h.used;obtain⟨l,b,s,r,h0,v,m,c⟩:=h;obtain⟨j,f,n⟩: ∃j,Tryz.prog.info? 114=some j/\j.size=2:=by
  have:(Tryz.prog.info? 114).map (·.size)=some 2:=by kernel_rfl
  cases hq:Tryz.prog.info? 114 with
  |none=>simp[hq]at this
  |some j=>exact⟨j,rfl,by simpa[hq]using this⟩
 have d:w.shape? g=some (t,cs.size):=by simp[World.shape?,b]
 rcases h0 with h0|h0
 . have c0:w.cell? ⟨g,o,none⟩=some (.pointer none):=by rw[Lib.cell_of_heap b];exact h0
   have y:w.frozen? ⟨g,o,none⟩=false:=Lib.frozen_of_heap b o;go_enter Tryz.func261,Tryz.ntmps261;go_wp2;rw[Lib.run_to_unsafe (P:=Tryz.prog) w (src:=112) (dst:=254) (t:=114) ⟨g,o,none⟩ Tryz.underlying112 Tryz.underlying254 f (by omega) d (by show o<cs.size;omega)];simp only[Result.andThen];rw[Oper.upon_value];go_wp2;rw[run_callFunc_extern Tryz.func306 (by kernel_rfl) (by kernel_rfl) (by kernel_rfl) (e:=Extern.AbiNoEscape.same) (by kernel_rfl)];rw[Lib.run_noEscape];simp only[Result.andThen];rw[Oper.upon_value];go_wp2;rw[Lib.run_from_unsafe (P:=Tryz.prog) w (src:=254) (dst:=112) (u:=114) ⟨g,o,none⟩ Tryz.underlying254 Tryz.underlying112 f d q];simp only[Result.andThen];rw[Oper.upon_value];go_wp2
   go_end0
   exact⟨rfl,x,(Below.refl B w).setCell (p:=⟨g,o,none⟩) l _,(Lib.OthersKept.refl _ _ w).setCell ⟨g,o,none⟩ rfl _⟩
 . have c0:w.cell? ⟨g,o,none⟩=some (.pointer (some ⟨g,o,none⟩)):=by rw[Lib.cell_of_heap b];exact h0
   have a:cs.setIfInBounds o (.pointer (some ⟨g,o,none⟩))=cs:=by
    apply Array.ext_getElem?
    intro i;rw[Array.getElem?_setIfInBounds]
    split
    . rename_i h;subst h;rw[if_pos (by omega),h0]
    . rfl
   have neq:=Lib.run_neq_ptr_same (P:=Tryz.prog) w (tp:=112) (te:=114) ⟨g,o,none⟩ Tryz.underlying112 f;go_enter Tryz.func261,Tryz.ntmps261;go_wp2
   go_end0
   exact⟨rfl,by rw[a];exact⟨l,b,s,r,.inr h0,v,m,c⟩,Below.refl _ _,Lib.OthersKept.refl _ _ _⟩
theorem infoByte:(Tryz.prog.info? 5).map (fun i=>(i.zero,i.size,i.bytes))=some (some (.int .u8 0),1,1):=by kernel_rfl
theorem Om.put {w1 c:World} {B g o:Nat} {t:TypeId} {cs:Array Value} {i bs':List UInt8} (h:Om w1 B g o t (cs.setIfInBounds o (.pointer (some ⟨g,o,none⟩))) i) (m:o+1<cs.size)
 (b:c.heap[g]? =some (.cells (cs.setIfInBounds o (.pointer (some ⟨g,o,none⟩))) t (0,0))) {v':Value} (a:c.ownsRow B 5 1 v' bs'.length (Lib.byteCells bs')):
 Om (c.setCell ⟨g,o+1,none⟩ v') B g o t (Nw g o cs v') bs':=by
 obtain⟨j,_,f,d,h0,_⟩:=h;refine⟨j,Cg b _,f,by simpa[Nw]using d,.inr ?_,v', ?_, ?_⟩
 . unfold Nw;rw[Array.getElem?_setIfInBounds,if_neg (by omega),Array.getElem?_setIfInBounds_self_of_lt (by omega)]
 . unfold Nw;rw[Array.getElem?_setIfInBounds_self_of_lt (by simpa using d)]
 . exact a.kept (row:=some g) ⟨rfl,rfl,rfl,by simp[World.setCell],fun k _ l=>Below.heap_setCell _ _ _ _ (fun e=>l (by simp[e]))⟩ (Or.inr (Lib.ownBlock_ne a b f))
theorem Jh {w:World} {B:Nat} {e:TypeId} {v:Value} {n:Nat} {xs:List Value} (h:w.ownsRow B e 1 v n xs): ∀g,v.ownBlock=some g-> ∃c b,w.heap[g]? =some (.cells c e b):=by
 intro g a;rcases h.2 with⟨rfl,_⟩|⟨g',cap,cur,rfl,_,hgg,_⟩
 . simp[Value.ownBlock]at a
 . simp[Value.ownBlock]at a;subst a;exact⟨cur,_,hgg⟩
theorem Hu (a b:List UInt8):Lib.byteCells (a++b)=Lib.byteCells a++Lib.byteCells b:=by simp[Lib.byteCells]
theorem J5 (B g o:Nat) (t:TypeId) (cs:Array Value) (n:List UInt8) (s:ByteArray) (w:World) (h:Om w B g o t cs n) (O:liesAt Tryz.prog Tryz.prog.depth t (cs.size / Tryz.prog.cellsOf t) o 114 1=true)
 (J:n.length+s.size<=140737488355328) (L:B<=w.heap.size):
 Calls Tryz.prog 181 #[.pointer (some ⟨g,o,none⟩),.string s] w fun e w'=>e=.returned (.tuple #[.int .i64 s.size,.nilIface])/\
  (∃v,Om w' B g o t (Nw g o cs v) (n++s.data.toList))/\Below B w w'/\Fd g w w':=by
 obtain⟨Q,M,D,E,F⟩:=info_parts infoByte;have C:o+1<cs.size:=h.2.2.2.1;go_enter Tryz.func181,Tryz.ntmps181;go_wp2_with (go_at_call 261;refine(Iy B g o t cs n _ h O).mono ?_);rintro e w1 ⟨rfl,I,i,u⟩;have l:=I;obtain⟨K,d,P,S,h0,v,m,b⟩:=I;have c1:w1.cell? ⟨g,o+1,none⟩=some v:=by rw[Lib.cell_of_heap d];exact m
 clear h m h0;go_wp2_with (at_builtin;refine Lib.wpList_append_own_string _ rfl _ _ 26 9 rfl B 5 Q Tryz.underlying26 Tryz.underlying9 M D E F _ _ _ rfl b s rfl ?c3 ?c4 ?c5 ?_)
 case c3=>unfold maxLen;omega
 case c4=>omega
 case c5=>have:=i.size;omega
 intro v' H c a _;have x:=Lib.ownBlock_ne b d P;have A:g<w1.heap.size:=l.lt;have j:H.heap[g]? =some (.cells (cs.setIfInBounds o (.pointer (some ⟨g,o,none⟩))) t (0,0)):=by
  rw[a.block g A (fun e=>x e.symm)];exact d
 have d1:H.cell? ⟨g,o+1,none⟩=some v:=by rw[Lib.cell_of_heap j,<-Lib.cell_of_heap d];exact c1
 have R:H.frozen? ⟨g,o+1,none⟩=false:=Lib.frozen_of_heap j _;have z:=u.grown a (Jh b);have q:=i.grown a (by have:=i.size;omega) (fun k N=>(b.lt k N).1);obtain⟨y,G,f,rfl⟩: ∃y G f,v'=.slice y G f:=by
  rcases c.2 with⟨m,_⟩|⟨g,f,cur,m,_⟩
  . exact⟨_,_,_,m⟩
  . exact⟨_,_,_,m⟩
 have r:=Om.put l C j (bs':=n++s.data.toList) (v':=.slice y G f) (by
  rw[Hu,List.length_append];have e:s.data.toList.length=s.size:=by rw[<-Lib.size_eq]
  rw[e];exact c)
 clear b c a c1 d j l i u x;go_wp2;go_ret2;exact⟨rfl,⟨_,r⟩,q.setCell (p:=⟨g,o+1,none⟩) K _,z.setCell ⟨g,o+1,none⟩ rfl _⟩
theorem Rs (B g o:Nat) (t:TypeId) (cs:Array Value) (r:List UInt8) (c:Int) (Q:0<=c) (R:c<256) (w:World) (h:Om w B g o t cs r) (U:liesAt Tryz.prog Tryz.prog.depth t (cs.size / Tryz.prog.cellsOf t) o 114 1=true)
 (M:r.length+1<=140737488355328) (P:B<=w.heap.size):
 Calls Tryz.prog 266 #[.pointer (some ⟨g,o,none⟩),.int .u8 c] w fun e w'=>e=.returned .nilIface/\
  (∃v,Om w' B g o t (Nw g o cs v) (r++ [UInt8.ofNat c.toNat]))/\Below B w w'/\Fd g w w':=by
 obtain⟨W,S,G,H,I⟩:=info_parts infoByte;have F:o+1<cs.size:=h.2.2.2.1;go_enter Tryz.func266,Tryz.ntmps266;go_wp2_with (go_at_call 261;refine(Iy B g o t cs r _ h U).mono ?_);rintro e w1 ⟨rfl,L,f,y⟩;have n:=L;obtain⟨O,i,V,Y,h0,v,q,b⟩:=L;have c1:w1.cell? ⟨g,o+1,none⟩=some v:=by rw[Lib.cell_of_heap i];exact q
 clear h q h0;go_wp2_with (at_builtin;refine wpList_append_own _ rfl _ _ 26 rfl B 5 W (.int .u8 0) 1 1 Tryz.underlying26 S G H I rfl (by decide) _ _ _ rfl (b.alloc _) ⟨w1.heap.size,0,none⟩ 1 1 [.int .u8 c] rfl rfl ?c1 ?c2 ?c3 ?c4 ?c5 ?_)
 case c1=>
  intro j u A
  match j,A with
  |0,A=>simp at A;subst A;simp[Addr.add]
 case c2=>intro u N;simp at N;subst N;rfl
 case c3=>unfold maxLen;omega
 case c4=>omega
 case c5=>have:=f.size;simp;omega
 intro v' K d a _;have z:=Lib.ownBlock_ne b i V;have E:g<w1.heap.size:=n.lt;have m:K.heap[g]? =some (.cells (cs.setIfInBounds o (.pointer (some ⟨g,o,none⟩))) t (0,0)):=by
  rw[a.block g (by simp;omega) (fun e=>z e.symm),Lib.alloc_old w1 _ g E];exact i
 have d1:K.cell? ⟨g,o+1,none⟩=some v:=by rw[Lib.cell_of_heap m,<-Lib.cell_of_heap i];exact c1
 have X:K.frozen? ⟨g,o+1,none⟩=false:=Lib.frozen_of_heap m _;have D:=(y.alloc _).grown a (Jh (b.alloc _));have s:=(f.alloc (by have:=f.size;omega) _).grown a (by have:=f.size;simp;omega) (fun k T=>(b.lt k T).1);obtain⟨C,J,l,rfl⟩: ∃C J l,v'=.slice C J l:=by
  rcases d.2 with⟨q,_⟩|⟨g,l,cur,q,_⟩
  . exact⟨_,_,_,q⟩
  . exact⟨_,_,_,q⟩
 have x:=Om.put n F m (bs':=r++ [UInt8.ofNat c.toNat]) (v':=.slice C J l) (by
  rw[Hu,List.length_append];have e:Lib.byteCells [UInt8.ofNat c.toNat]= [.int .u8 c]:=by
   simp[Lib.byteCells];omega
  rw[e];exact d)
 clear b d a c1 i m n f y z;go_wp2;go_ret;exact⟨rfl,⟨_,x⟩,s.setCell (p:=⟨g,o+1,none⟩) O _,D.setCell ⟨g,o+1,none⟩ rfl _⟩
theorem R8 (r:Int):Lib.runeCells r=Lib.byteCells (Lib.encodeRune r):=(Lib.byteCells_encodeRune r).symm
theorem Rt (B g o:Nat) (t:TypeId) (cs:Array Value) (x:List UInt8) (r:Int) (H: -2147483648<=r) (I:r<=2147483647) (w:World) (h:Om w B g o t cs x) (P:liesAt Tryz.prog Tryz.prog.depth t (cs.size / Tryz.prog.cellsOf t) o 114 1=true)
 (K:x.length+4<=140737488355328) (N:B<=w.heap.size):
 Calls Tryz.prog 269 #[.pointer (some ⟨g,o,none⟩),.int .i32 r] w fun e w'=>(∃k:Int,e=.returned (.tuple #[.int .i64 k,.nilIface]))/\
  (∃v,Om w' B g o t (Nw g o cs v) (x++Lib.encodeRune r))/\Below B w w'/\Fd g w w':=by
 have G:o+1<cs.size:=h.2.2.2.1;go_enter Tryz.func269,Tryz.ntmps269;go_wp2_with (go_at_call 261;refine(Iy B g o t cs x _ h P).mono ?_);rintro e w1 ⟨rfl,J,i,A⟩;have q:=J;obtain⟨M,j,Q,U,h0,v,l,a⟩:=J;have c1:w1.cell? ⟨g,o+1,none⟩=some v:=by rw[Lib.cell_of_heap j];exact l
 clear h l h0;obtain⟨u,R,d,rfl⟩: ∃u s d,v=.slice u s d:=by
  rcases a.2 with⟨l,_⟩|⟨g,d,cur,l,_⟩
  . exact⟨_,_,_,l⟩
  . exact⟨_,_,_,l⟩
 go_wp2_with (go_at_call 313;refine(Tryz.utf8_AppendRune_plain B _ _ _ r H I _ a (by omega) (by have:=i.size;omega)).mono ?_);rintro e D ⟨v',rfl,c,L,b⟩;have C:=Lib.ownBlock_ne a j Q;have F:g<w1.heap.size:=q.lt;have m:D.heap[g]? =some (.cells (cs.setIfInBounds o (.pointer (some ⟨g,o,none⟩))) t (0,0)):=by
  rw[b.block g (by simp;omega) (fun e=>C e.symm),Lib.alloc_old w1 _ g F];exact j
 have d1:D.cell? ⟨g,o+1,none⟩=some (.slice u R d):=by rw[Lib.cell_of_heap m,<-Lib.cell_of_heap j];exact c1
 have T:D.frozen? ⟨g,o+1,none⟩=false:=Lib.frozen_of_heap m _;have E:=(A.alloc L).grown b (Jh (a.alloc _));have y:=(i.alloc (by have:=i.size;omega) L).grown b (by have:=i.size;simp;omega) (fun k O=>(a.lt k O).1);obtain⟨n,s,f,rfl⟩: ∃u s d,v'=.slice u s d:=by
  rcases c.2 with⟨l,_⟩|⟨g,d,cur,l,_⟩
  . exact⟨_,_,_,l⟩
  . exact⟨_,_,_,l⟩
 have z:=Om.put q G m (bs':=x++Lib.encodeRune r) (v':=.slice n s f) (by
  rw[Hu,List.length_append];rw[R8]at c;simpa[Lib.byteCells]using c)
 have S:(D.setCell ⟨g,o+1,none⟩ (.slice n s f)).cell? ⟨g,o+1,none⟩=some (.slice n s f):=World.cell?_setCell_same' _ _ _ (by rw[d1];rfl);clear a c b c1 j m q i A C;go_wp2;go_ret2;exact⟨⟨_,rfl⟩,⟨_,z⟩,y.setCell (p:=⟨g,o+1,none⟩) M _,E.setCell ⟨g,o+1,none⟩ rfl _⟩
theorem Ov (B g o:Nat) (t:TypeId) (cs:Array Value) (l:List UInt8) (w:World) (h:Om w B g o t cs l) (f:l≠ []):
 Calls Tryz.prog 54 #[.pointer (some ⟨g,o,none⟩)] w fun e w'=>e=.returned (.string ⟨l.toArray⟩)/\Below B w w'/\Fd g w w':=by
 obtain⟨F,m,H,G,h0,v,i,d⟩:=h;have s:l.length≠0:=by simpa using f
 obtain⟨c,a,b,rfl,k,y,D,n,C,u⟩: ∃c a b,v=.slice (some ⟨c,0,none⟩) l.length a/\B<=c/\w.heap[c]? =some (.cells b 5 (0,0))/\l.length<=a/\a<=maxLen/\b.size=a*1/\b.toList.take (l.length*1)=Lib.byteCells l:=by
  rcases d.2 with⟨_,hz⟩|⟨c,a,b,i,r⟩
  . exact absurd hz s
  . exact⟨c,a,b,i,r⟩
 have c1:w.drew.cell? ⟨g,o+1,none⟩=some (.slice (some ⟨c,0,none⟩) l.length a):=by
  have:w.drew.heap[g]? =some (.cells cs t (0,0)):=m;rw[Lib.cell_of_heap this];exact i
 have z:(Builtin.unsafeSliceData_ #[26] 185 #[.slice (some ⟨c,0,none⟩) l.length a]).run Tryz.prog w.drew=.ok (.pointer (some ⟨c,0,none⟩)) w.drew:=
  Lib.run_unsafeSliceData_row _ _ _ _ _ _ (by omega)
 have A:(Builtin.unsafeString_ #[185,3] 9 #[.pointer (some ⟨c,0,none⟩),.int .i64 l.length]).run Tryz.prog w.drew=.ok (.string ⟨l.toArray⟩) (w.drew.freeze ⟨c,0,none⟩ l.length):=by
  refine Lib.run_unsafeString_row w.drew 185 3 9 5 Tryz.underlying185 (by kernel_rfl) c b.size (by have q:w.drew.heap[c]? =some (.cells b 5 (0,0)):=y;simp[World.shape?,q]) l f (by omega) (by unfold maxLen at n;omega) ?_;intro j x E;have:=d.cells (g:=c) rfl j (.int .u8 x.toNat) (by simp[Lib.byteCells,E]);exact this
 clear i h0;go_enter Tryz.func54,Tryz.ntmps54;go_wp2;go_region
 all_goals(go_wp2;go_ret;exact⟨rfl,Lib.below_freeze (Below.drew (Below.refl B w)) (p:=⟨c,0,none⟩) k _,((Lib.OthersKept.refl _ _ w).drew).freeze ⟨c,0,none⟩ _ ⟨b,_,y⟩⟩)
end Go.Proofs.YtjgfchcldhmjcaaGreatDoor
