/- Parts: Rows that a call makes and fills, of data of any make. Plain. No condition. -/
import Derived.Test.YtolnhkmhfblhkaaGreatDoorKSn3
namespace Go.Proofs.YtolnhkmhfblhkaaGreatDoor
open Go Go.RowKit
def Bc (w:World) (g o:Nat):List Value->World
 | []=>w
 |v::r=>Bc (w.setCell ⟨g,o,none⟩ v) g (o+1) r
def F1 (cs:Array Value) (o:Nat):List Value->Array Value
 | []=>cs
 |v::r=>F1 (cs.setIfInBounds o v) (o+1) r
theorem By: ∀(vs:List Value) (w:World) (g o:Nat),(Bc w g o vs).heap.size=w.heap.size
 | [],_,_,_=>rfl
 |v::r,w,g,o=>by simp only[Bc];rw[By r];simp[World.setCell]
theorem Cz: ∀(vs:List Value) (w:World) (g o c:Nat),c≠g->(Bc w g o vs).heap[c]? =w.heap[c]?
 | [],_,_,_,_,_=>rfl
 |v::r,w,g,o,c,h=>by
  simp only[Bc];rw[Cz r _ _ _ _ h];simp only[World.setCell,Array.getElem?_modify];rw[if_neg (fun e=>h e.symm)]
theorem E3: ∀(vs:List Value) {w:World} {g o:Nat} {cs:Array Value} {t:TypeId},w.heap[g]? =some (.cells cs t (0,0))->(Bc w g o vs).heap[g]? =some (.cells (F1 cs o vs) t (0,0))
 | [],_,_,_,_,_,h=>h
 |v::r,w,g,o,cs,t,h=>by
  simp only[Bc,F1];exact E3 r (by simp[World.setCell,Array.getElem?_modify,h])
theorem A0 {B:Nat} {a:World}: ∀(vs:List Value) {w:World} {g o:Nat},Below B a w->B<=g->Below B a (Bc w g o vs)
 | [],_,_,_,h,_=>h
 |v::r,w,g,o,h,hg=>by
  simp only[Bc];exact A0 r (h.setCell hg _) hg
theorem Fp: ∀(vs:List Value) (cs:Array Value) (o:Nat),(F1 cs o vs).size=cs.size
 | [],_,_=>rfl
 |v::r,cs,o=>by simp only[F1];rw[Fp r];simp
theorem Gv: ∀(vs:List Value) (cs:Array Value) (o i:Nat),o+vs.length<=cs.size->(F1 cs o vs)[i]? =if o<=i/\i<o+vs.length then vs[i - o]? else cs[i]?
 | [],cs,o,i,_=>by
   simp only[F1,List.length_nil];rw[if_neg (by omega)]
 |v::r,cs,o,i,h=>by
  simp only[List.length_cons]at h;simp only[F1];rw[Gv r _ _ _ (by simp;omega)];by_cases h1:o+1<=i/\i<o+1+r.length
  . rw[if_pos h1,if_pos ⟨by omega,by simp only[List.length_cons];omega⟩,show i - o=(i - (o+1))+1 from by omega,List.getElem?_cons_succ]
  . rw[if_neg h1];by_cases h2:i=o
    . subst h2;rw[if_pos ⟨Nat.le_refl _,by simp⟩];simp only[Nat.sub_self,List.getElem?_cons_zero];rw[Array.getElem?_setIfInBounds_self_of_lt (by omega)]
    . rw[if_neg (by simp only[List.length_cons];omega),Array.getElem?_setIfInBounds_ne (by omega)]
def B3 (b g:Nat) (t:TypeId) (s N:Nat) (wr:World) (l:List D):Prop:=
 b<=g/\l.length<=N/\(∀d ∈ l,d.cells=s)/\ ∃(cs:Array Value) (ns:List Value),wr.heap[g]? =some (.cells cs t (0,0))/\cs.size=N*s/\(∀(j:Nat) (u:Value),ns[j]? =some u->cs[j]? =some u)/\
  ∀w'':World,wr.heap.size<=w''.heap.size->(∀p:Addr,b<=p.block->p.block<wr.heap.size->p.block≠g->w''.cell? p=wr.cell? p)->Aa w'' wr.heap.size l ns
theorem B3.lt {b g:Nat} {t:TypeId} {s N:Nat} {wr:World} {l:List D} (h:B3 b g t s N wr l):g<wr.heap.size:=by
 obtain⟨_,_,_,cs,ns,h4,_⟩:=h;exact(Array.getElem?_eq_some_iff.1 h4).1
theorem B3.cell {b g:Nat} {t:TypeId} {s N:Nat} {wr:World} {l:List D} (h:B3 b g t s N wr l):(∀j,j<N*s-> ∃u,wr.cell? ⟨g,j,none⟩=some u)/\ ∀j,wr.frozen? ⟨g,j,none⟩=false:=by
 obtain⟨_,_,_,cs,ns,h4,h5,_⟩:=h;refine⟨fun j hj=> ?_,fun j=> ?_⟩
 . exact⟨cs[j],by rw[cell_of_row wr g j cs t (0,0) h4];exact Array.getElem?_eq_getElem (by omega)⟩
 . simp[World.frozen?,h4]
theorem B3.keep {b g:Nat} {t:TypeId} {s N:Nat} {wr w':World} {l:List D} (h:B3 b g t s N wr l) (hs:wr.heap.size<=w'.heap.size) (hk: ∀i,b<=i->i<wr.heap.size->w'.heap[i]? =wr.heap[i]?):B3 b g t s N w' l:=by
 have hlt:=h.lt;obtain⟨h1,h2,h3,cs,ns,h4,h5,h6,h7⟩:=h;exact⟨h1,h2,h3,cs,ns,(hk g h1 hlt).trans h4,h5,h6,fun w'' k1 k2=>Aa.more (h7 w'' (by omega) (fun p p1 p2 p3=>(k2 p p1 (by omega) p3).trans (World.cell?_of_block (hk p.block p1 p2)))) hs⟩
theorem B3.below {b g:Nat} {t:TypeId} {s N:Nat} {wr w':World} {l:List D} (h:B3 b g t s N wr l) (hb:Below wr.heap.size wr w'):B3 b g t s N w' l:=h.keep hb.size fun i _ hi=>hb.block i hi
theorem B3.step {b g:Nat} {t:TypeId} {s N:Nat} {wr w4:World} {l:List D} {d:D} {cs':List Value} (h:B3 b g t s N wr l) (hl:l.length<N) (hd:d.cells=s) (hx:Av wr.heap.size w4 d cs') (h4:Below wr.heap.size wr w4):
 B3 b g t s N (Bc w4 g (l.length*s) cs') (l++ [d]):=by
 have hlt:=h.lt;have h':=h.below h4;obtain⟨h1,h2,h3,cs,ns,k4,h5,h6,h7⟩:=h';have hcl:cs'.length=s:=hx.now.len.1.trans hd;have hnl:ns.length=l.length*s:=by
  have hA:=h7 w4 (Nat.le_refl _) (fun _ _ _ _=>rfl);rw[hA.len.1,De h3]
 have hN:l.length*s+s<=N*s:=by
  have:=Nat.mul_le_mul_right s (show l.length+1<=N by omega);rw[Nat.add_mul,Nat.one_mul]at this;exact this
 have hsz:=h4.size;refine⟨h1,by rw[List.length_append,List.length_cons,List.length_nil];omega, ?_,F1 cs (l.length*s) cs',ns++cs',E3 cs' k4,by rw[Fp];exact h5, ?_, ?_⟩
 . intro x hx';rcases List.mem_append.1 hx' with hx'|hx'
   . exact h3 x hx'
   . simp only[List.mem_cons,List.not_mem_nil,or_false]at hx';rw[hx'];exact hd
 . intro j u hj;rw[Gv cs' cs (l.length*s) j (by omega)];by_cases hjn:j<ns.length
   . rw[List.getElem?_append_left hjn]at hj;rw[if_neg (by omega)];exact h6 j u hj
   . rw[List.getElem?_append_right (by omega)]at hj;have:=(List.getElem?_eq_some_iff.1 hj).1;rw[if_pos ⟨by omega,by omega⟩,<-hnl];exact hj
 . intro w'' k1 k2;rw[By]at k1 k2 ⊢;have hfar: ∀p:Addr,b<=p.block->p.block<w4.heap.size->p.block≠g->w''.cell? p=w4.cell? p:=fun p p1 p2 p3=>(k2 p p1 p2 p3).trans (World.cell?_of_block (Cz cs' w4 g _ _ p3));exact(h7 w'' k1 hfar).snoc (hx w'' k1 (fun p p1 p2=>hfar p (by omega) p2 (by omega)))
theorem B3.close {b g:Nat} {t:TypeId} {s:Nat} {wr:World} {l:List D} (h:B3 b g t s l.length wr l) (c:Nat):Av b wr (.row s l) [.slice (some ⟨g,0,none⟩) l.length c]:=by
 have hlt:=h.lt;obtain⟨h1,h2,h3,cs,ns,h4,h5,h6,h7⟩:=h;intro w'' k1 k2;refine⟨_,c,rfl,h3,ns,h7 w'' k1 (fun p p1 p2 _=>k2 p p1 p2),.inr ⟨g,0,rfl,hlt,fun j u hu=> ?_⟩⟩;rw[k2 _ h1 hlt,Nat.zero_add,cell_of_row wr g j cs t (0,0) h4];exact h6 j u hu
end Go.Proofs.YtolnhkmhfblhkaaGreatDoor
