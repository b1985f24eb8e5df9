/- Parts: A range over an iterator that yields a known list, by a body that always goes on: the law that the walks use. No condition. -/
import Derived.Test.YtdbejcbbhomdbaaGreatDoorProg
import Derived.RangeFuncNested
import Derived.RangeFuncBound
import Derived.RangeFuncCalls
import Derived.RangeFuncLeaves
import Derived.OwnWalkIn
import Derived.TacticsInMore
import Derived.Test.YtdbejcbbhomdbaaGreatDoorKPu3
namespace Go.Proofs.YtdbejcbbhomdbaaGreatDoor
open Go Go.RowKit
theorem B5 {w:World} {g:Nat} {t:TypeId} {cs:Array Value} (h:Ao w g t cs):A4 w (g+1) cs.size (some ⟨g,0,none⟩) 1 cs.toList:=by
 refine⟨by simp,fun _=>⟨_,rfl,by simp,fun j u hu=> ?_⟩⟩;rw[A5,Nat.zero_add];exact(h.cell j).trans (by rw[<-Array.getElem?_toList];exact hu)
theorem Cw.lit {b:Nat} {t:TypeId} {w:World} {d:D} {cs:Array Value} (hb:b<=w.heap.size) (hd:d.cells=cs.size) (h: ∀w'' B,Ai w'' B d cs.toList):
 Cw b t cs.size (w.alloc (.cells cs t)) [d] (.slice (some ⟨w.heap.size,0,none⟩) 1 1):=
 ⟨cs.toList,World.ownsRow_lit w cs 1 hb (by simp[maxLen]) (by simp),fun x hx=>by simp at hx;rw[hx];exact hd,fun w'' _ _=>Ah.one (h w'' _)⟩
theorem Cw.slice {b:Nat} {t:TypeId} {s:Nat} {wr:World} {l:List D} {V:Value} (h:Cw b t s wr l V): ∃a c,V=.slice a l.length c:=by
 obtain⟨ns,h1,_⟩:=h;rcases h1.2 with⟨rfl,h0⟩|⟨g,cap,cur,rfl,_⟩
 . exact⟨_,_,by rw[h0]⟩
 . exact⟨_,_,rfl⟩
theorem Cw.now {b:Nat} {t:TypeId} {s:Nat} {wr:World} {l:List D} {a:Option Addr} {n c:Nat} (h:Cw b t s wr l (.slice a n c)):Ai wr wr.heap.size (.row s l) [.slice a n c]:=by
 obtain⟨a',c',e,_,hf,_⟩:=h.close
 cases e
 exact hf.now
section
variable {P:Program}
theorem Qe {t ty e:TypeId} {i:TypeInfo} {z:Value} {sz bytes:Nat} (ht:P.underlying t=some (.slice e)) (hi:P.info? e=some i) (hz:i.zero=some z) (hsize:i.size=sz) (hby:i.bytes=bytes) (hzs:z.cells.size=sz) (hsz:0<sz)
 {b:Nat} {wr w:World} {l:List D} {V:Value} (hrow:Cw b e sz wr l V) (hbw:b<=wr.heap.size) (hbe:Below wr.heap.size wr w) {d:D} {cs:List Value} (hd:d.cells=sz) (hx:Bk wr.heap.size w d cs)
 {B:Nat} {A:Option Addr} {c:Nat} (hr:A4 w B sz A 1 cs) (h63:l.length+1<=maxLen) (hbytes:(l.length+1)*bytes<=140737488355328):
 ∃V' w6,(Builtin.append_ #[t,t] ty #[V,.slice A 1 c]).run P w=.ok V' w6/\Cw b e sz w6 (l++ [d]) V'/\w.grownBy w6 V.ownBlock/\(V'.ownBlock=V.ownBlock\/V'.ownBlock=some w.heap.size):=by
 obtain⟨ns,h1,h2,h3⟩:=hrow.below hbe;have h1r:=hrow;obtain⟨ns0,k1,k2,k3⟩:=h1r;have hown:w.ownsRow b e sz V l.length ns0:=by
  refine k1.kept (row:=none) ⟨hbe.os,hbe.tape,hbe.output,hbe.size,fun j hj _=>hbe.block j hj⟩ ?_
  cases hv:V.ownBlock<;>simp
 obtain⟨V',w6,hrun,g1,g2,g3⟩:=Eb (P:=P) w b t ty e i z sz bytes ht hi hz hsize hby hzs hsz V l.length ns0 hown B A 1 c cs hr hx.now.len.2 h63 hbytes (Nat.le_trans hbw hbe.size);refine⟨V',w6,hrun, ?_,g2,g3⟩;refine Cw.step hbw k3 k2 hd hx (fun g hg=>(k1.lt g hg).2) g1 ?_ hbe.size g2.size (fun p _ p2=>hbe.cell p2) (fun p _ p2 p3=>World.cell?_of_block (g2.block p.block p2 (fun e=>p3 e.symm)));rcases g3 with g3|g3
 . exact .inl g3
 . exact .inr ⟨_,g3,Nat.le_refl _⟩
theorem Ls {o:Oper} {a:Act} {K:Act->World->Prop} {Q:Exit->Act->World->Prop} (s x:Operand) (t:TypeId) {e:TypeId}
 (ho:o.op=.call {callee:=.builtin .append,args:= #[s,x],argTypes:= #[t,t]}) {i:TypeInfo} {z:Value} {sz bytes:Nat} (ht:P.underlying t=some (.slice e)) (hi:P.info? e=some i) (hz:i.zero=some z) (hsize:i.size=sz) (hby:i.bytes=bytes) (hzs:z.cells.size=sz) (hsz:0<sz)
 {b:Nat} {wr w:World} {l:List D} {V:Value} (hs:a.eval s=V) (hrow:Cw b e sz wr l V) (hbw:b<=wr.heap.size) (hbe:Below wr.heap.size wr w) {d:D} {cs:List Value} (hd:d.cells=sz) (hf:Bk wr.heap.size w d cs)
 {B:Nat} {A:Option Addr} {c:Nat} (hx:a.eval x=.slice A 1 c) (hr:A4 w B sz A 1 cs) (h63:l.length+1<=maxLen) (hbytes:(l.length+1)*bytes<=140737488355328)
 (h: ∀V' w6,Cw b e sz w6 (l++ [d]) V'->w.grownBy w6 V.ownBlock->(V'.ownBlock=V.ownBlock\/V'.ownBlock=some w.heap.size)->K (a.put o.dst V') w6):o.wp P a w K Q:=by
 obtain⟨V',w6,hrun,g1,g2,g3⟩:=Qe (ty:=o.type) (c:=c) ht hi hz hsize hby hzs hsz hrow hbw hbe hd hf hr h63 hbytes;unfold Oper.wp execOp;simp only[ho,resolve,invoke,builtin,Sem.run_bind,Sem.run_pure,Result.andThen_ok,List.map_toArray,List.map_cons,List.map_nil,hs,hx,hrun];exact h V' w6 g1 g2 g3
theorem E0 {ops:Array Oper} {rest:List Oper} {o:Oper} {a:Act} {Q:Exit->Act->World->Prop} (hgd:o.guard=none) (s x:Operand) (t:TypeId) {e:TypeId}
 (ho:o.op=.call {callee:=.builtin .append,args:= #[s,x],argTypes:= #[t,t]}) {i:TypeInfo} {z:Value} {sz bytes:Nat} (ht:P.underlying t=some (.slice e)) (hi:P.info? e=some i) (hz:i.zero=some z) (hsize:i.size=sz) (hby:i.bytes=bytes) (hzs:z.cells.size=sz) (hsz:0<sz)
 {b:Nat} {wr w:World} {l:List D} {V:Value} (hs:a.eval s=V) (hrow:Cw b e sz wr l V) (hbw:b<=wr.heap.size) (hbe:Below wr.heap.size wr w) {d:D} {cs:List Value} (hd:d.cells=sz) (hf:Bk wr.heap.size w d cs)
 {B:Nat} {A:Option Addr} {c:Nat} (hx:a.eval x=.slice A 1 c) (hr:A4 w B sz A 1 cs) (h63:l.length+1<=maxLen) (hbytes:(l.length+1)*bytes<=140737488355328)
 (h: ∀V' w6,Cw b e sz w6 (l++ [d]) V'->w.grownBy w6 V.ownBlock->(V'.ownBlock=V.ownBlock\/V'.ownBlock=some w.heap.size)->wpList P ops Q rest (a.put o.dst V') w6):wpList P ops Q (o::rest) a w:=
 wpList_plain hgd fun _ hK=>Ls s x t ho ht hi hz hsize hby hzs hsz hs hrow hbw hbe hd hf hx hr h63 hbytes fun V' w6 h2 h3 h4=>hK _ _ (h V' w6 h2 h3 h4)
theorem Od {ops:Array Oper} {o:Oper} {a:Act} {K:Act->World->Prop} {Q:Exit->Act->World->Prop} {E:Prop} (hgd:o.guard=none) (s x:Operand) (t:TypeId) {e:TypeId}
 (ho:o.op=.call {callee:=.builtin .append,args:= #[s,x],argTypes:= #[t,t]}) {i:TypeInfo} {z:Value} {sz bytes:Nat} (ht:P.underlying t=some (.slice e)) (hi:P.info? e=some i) (hz:i.zero=some z) (hsize:i.size=sz) (hby:i.bytes=bytes) (hzs:z.cells.size=sz) (hsz:0<sz)
 {b:Nat} {wr w:World} {l:List D} {V:Value} (hs:a.eval s=V) (hrow:Cw b e sz wr l V) (hbw:b<=wr.heap.size) (hbe:Below wr.heap.size wr w) {d:D} {cs:List Value} (hd:d.cells=sz) (hf:Bk wr.heap.size w d cs)
 {B:Nat} {A:Option Addr} {c:Nat} (hx:a.eval x=.slice A 1 c) (hr:A4 w B sz A 1 cs) (h63:l.length+1<=maxLen) (hbytes:(l.length+1)*bytes<=140737488355328)
 (h: ∀V' w6,Cw b e sz w6 (l++ [d]) V'->w.grownBy w6 V.ownBlock->(V'.ownBlock=V.ownBlock\/V'.ownBlock=some w.heap.size)->K (a.put o.dst V') w6):
 if Region.wanted o (yielded ops a.tmps)=true then Oper.wp P o a w K Q else E:=by
 have hw:Region.wanted o (yielded ops a.tmps)=true:=by simp[Region.wanted,hgd]
 rw[if_pos hw];exact Ls s x t ho ht hi hz hsize hby hzs hsz hs hrow hbw hbe hd hf hx hr h63 hbytes h
end
def Ca (w:World) (g o:Nat):List Value->World
 | []=>w
 |v::r=>Ca (w.setCell ⟨g,o,none⟩ v) g (o+1) r
def Lz (cs:Array Value) (o:Nat):List Value->Array Value
 | []=>cs
 |v::r=>Lz (cs.setIfInBounds o v) (o+1) r
theorem Cy: ∀(vs:List Value) (w:World) (g o:Nat),(Ca w g o vs).heap.size=w.heap.size
 | [],_,_,_=>rfl
 |v::r,w,g,o=>by simp only[Ca];rw[Cy r];simp[World.setCell]
theorem De: ∀(vs:List Value) (w:World) (g o c:Nat),c≠g->(Ca w g o vs).heap[c]? =w.heap[c]?
 | [],_,_,_,_,_=>rfl
 |v::r,w,g,o,c,h=>by
  simp only[Ca];rw[De r _ _ _ _ h];simp only[World.setCell,Array.getElem?_modify];rw[if_neg (fun e=>h e.symm)]
theorem Gx: ∀(vs:List Value) {w:World} {g o:Nat} {cs:Array Value} {t:TypeId},w.heap[g]? =some (.cells cs t (0,0))->(Ca w g o vs).heap[g]? =some (.cells (Lz cs o vs) t (0,0))
 | [],_,_,_,_,_,h=>h
 |v::r,w,g,o,cs,t,h=>by
  simp only[Ca,Lz];exact Gx r (by simp[World.setCell,Array.getElem?_modify,h])
theorem Bf {B:Nat} {a:World}: ∀(vs:List Value) {w:World} {g o:Nat},Below B a w->B<=g->Below B a (Ca w g o vs)
 | [],_,_,_,h,_=>h
 |v::r,w,g,o,h,hg=>by
  simp only[Ca];exact Bf r (h.setCell hg _) hg
theorem K2: ∀(vs:List Value) (cs:Array Value) (o:Nat),(Lz cs o vs).size=cs.size
 | [],_,_=>rfl
 |v::r,cs,o=>by simp only[Lz];rw[K2 r];simp
theorem Kb: ∀(vs:List Value) (cs:Array Value) (o i:Nat),o+vs.length<=cs.size->(Lz cs o vs)[i]? =if o<=i/\i<o+vs.length then vs[i - o]? else cs[i]?
 | [],cs,o,i,_=>by
   simp only[Lz,List.length_nil];rw[if_neg (by omega)]
 |v::r,cs,o,i,h=>by
  simp only[List.length_cons]at h;simp only[Lz];rw[Kb r _ _ _ (by simp;omega)];by_cases h1:o+1<=i/\i<o+1+r.length
  . rw[if_pos h1,if_pos ⟨by omega,by simp only[List.length_cons];omega⟩,show i - o=(i - (o+1))+1 from by omega,List.getElem?_cons_succ]
  . rw[if_neg h1];by_cases h2:i=o
    . subst h2;rw[if_pos ⟨Nat.le_refl _,by simp⟩];simp only[Nat.sub_self,List.getElem?_cons_zero];rw[Array.getElem?_setIfInBounds_self_of_lt (by omega)]
    . rw[if_neg (by simp only[List.length_cons];omega),Array.getElem?_setIfInBounds_ne (by omega)]
def Cz (b g:Nat) (t:TypeId) (s N:Nat) (wr:World) (l:List D):Prop:=
 b<=g/\l.length<=N/\(∀d ∈ l,d.cells=s)/\ ∃(cs:Array Value) (ns:List Value),wr.heap[g]? =some (.cells cs t (0,0))/\cs.size=N*s/\(∀(j:Nat) (u:Value),ns[j]? =some u->cs[j]? =some u)/\
  ∀w'':World,wr.heap.size<=w''.heap.size->(∀p:Addr,b<=p.block->p.block<wr.heap.size->p.block≠g->w''.cell? p=wr.cell? p)->Ah w'' wr.heap.size l ns
theorem Cz.start {b g:Nat} {t:TypeId} {s N:Nat} {wr:World} {cs:Array Value} (hb:b<=g) (hg:wr.heap[g]? =some (.cells cs t (0,0))) (hs:cs.size=N*s):Cz b g t s N wr []:=
 ⟨hb,Nat.zero_le _,fun d hd=>(by cases hd),cs, [],hg,hs,fun j u h=>(by simp at h),fun _ _ _=>rfl⟩
theorem Cz.lt {b g:Nat} {t:TypeId} {s N:Nat} {wr:World} {l:List D} (h:Cz b g t s N wr l):g<wr.heap.size:=by
 obtain⟨_,_,_,cs,ns,h4,_⟩:=h;exact(Array.getElem?_eq_some_iff.1 h4).1
theorem Cz.cell {b g:Nat} {t:TypeId} {s N:Nat} {wr:World} {l:List D} (h:Cz b g t s N wr l):(∀j,j<N*s-> ∃u,wr.cell? ⟨g,j,none⟩=some u)/\ ∀j,wr.frozen? ⟨g,j,none⟩=false:=by
 obtain⟨_,_,_,cs,ns,h4,h5,_⟩:=h;refine⟨fun j hj=> ?_,fun j=> ?_⟩
 . exact⟨cs[j],by rw[cell_of_row wr g j cs t (0,0) h4];exact Array.getElem?_eq_getElem (by omega)⟩
 . simp[World.frozen?,h4]
theorem Cz.keep {b g:Nat} {t:TypeId} {s N:Nat} {wr w':World} {l:List D} (h:Cz b g t s N wr l) (hs:wr.heap.size<=w'.heap.size) (hk: ∀i,b<=i->i<wr.heap.size->w'.heap[i]? =wr.heap[i]?):Cz b g t s N w' l:=by
 have hlt:=h.lt;obtain⟨h1,h2,h3,cs,ns,h4,h5,h6,h7⟩:=h;exact⟨h1,h2,h3,cs,ns,(hk g h1 hlt).trans h4,h5,h6,fun w'' k1 k2=>Ah.more (h7 w'' (by omega) (fun p p1 p2 p3=>(k2 p p1 (by omega) p3).trans (World.cell?_of_block (hk p.block p1 p2)))) hs⟩
theorem Cz.below {b g:Nat} {t:TypeId} {s N:Nat} {wr w':World} {l:List D} (h:Cz b g t s N wr l) (hb:Below wr.heap.size wr w'):Cz b g t s N w' l:=h.keep hb.size fun i _ hi=>hb.block i hi
theorem Cz.step {b g:Nat} {t:TypeId} {s N:Nat} {wr w4:World} {l:List D} {d:D} {cs':List Value} (h:Cz b g t s N wr l) (hl:l.length<N) (hd:d.cells=s) (hx:Bk wr.heap.size w4 d cs') (h4:Below wr.heap.size wr w4):
 Cz b g t s N (Ca w4 g (l.length*s) cs') (l++ [d]):=by
 have hlt:=h.lt;have h':=h.below h4;obtain⟨h1,h2,h3,cs,ns,k4,h5,h6,h7⟩:=h';have hcl:cs'.length=s:=hx.now.len.1.trans hd;have hnl:ns.length=l.length*s:=by
  have hA:=h7 w4 (Nat.le_refl _) (fun _ _ _ _=>rfl);rw[hA.len.1,Da h3]
 have hN:l.length*s+s<=N*s:=by
  have:=Nat.mul_le_mul_right s (show l.length+1<=N by omega);rw[Nat.add_mul,Nat.one_mul]at this;exact this
 have hsz:=h4.size;refine⟨h1,by rw[List.length_append,List.length_cons,List.length_nil];omega, ?_,Lz cs (l.length*s) cs',ns++cs',Gx cs' k4,by rw[K2];exact h5, ?_, ?_⟩
 . intro x hx';rcases List.mem_append.1 hx' with hx'|hx'
   . exact h3 x hx'
   . simp only[List.mem_cons,List.not_mem_nil,or_false]at hx';rw[hx'];exact hd
 . intro j u hj;rw[Kb cs' cs (l.length*s) j (by omega)];by_cases hjn:j<ns.length
   . rw[List.getElem?_append_left hjn]at hj;rw[if_neg (by omega)];exact h6 j u hj
   . rw[List.getElem?_append_right (by omega)]at hj;have:=(List.getElem?_eq_some_iff.1 hj).1;rw[if_pos ⟨by omega,by omega⟩,<-hnl];exact hj
 . intro w'' k1 k2;rw[Cy]at k1 k2 ⊢;have hfar: ∀p:Addr,b<=p.block->p.block<w4.heap.size->p.block≠g->w''.cell? p=w4.cell? p:=fun p p1 p2 p3=>(k2 p p1 p2 p3).trans (World.cell?_of_block (De cs' w4 g _ _ p3));exact(h7 w'' k1 hfar).snoc (hx w'' k1 (fun p p1 p2=>hfar p (by omega) p2 (by omega)))
theorem Cz.close {b g:Nat} {t:TypeId} {s:Nat} {wr:World} {l:List D} (h:Cz b g t s l.length wr l) (c:Nat):Bk b wr (.row s l) [.slice (some ⟨g,0,none⟩) l.length c]:=by
 have hlt:=h.lt;obtain⟨h1,h2,h3,cs,ns,h4,h5,h6,h7⟩:=h;intro w'' k1 k2;refine⟨_,c,rfl,h3,ns,h7 w'' k1 (fun p p1 p2 _=>k2 p p1 p2),.inr ⟨g,0,rfl,hlt,fun j u hu=> ?_⟩⟩;rw[k2 _ h1 hlt,Nat.zero_add,cell_of_row wr g j cs t (0,0) h4];exact h6 j u hu
def Ag (S:Nat->Prop) (w:World) (d:D) (cs:List Value):Prop:=
 ∀w'':World,w.heap.size<=w''.heap.size->(∀p:Addr,S p.block->p.block<w.heap.size->w''.cell? p=w.cell? p)->Ai w'' w.heap.size d cs
def Aq (S:Nat->Prop) (w:World) (l:List D) (cs:List Value):Prop:=
 ∀w'':World,w.heap.size<=w''.heap.size->(∀p:Addr,S p.block->p.block<w.heap.size->w''.cell? p=w.cell? p)->Ah w'' w.heap.size l cs
theorem Ag.now {S:Nat->Prop} {w:World} {d:D} {cs:List Value} (h:Ag S w d cs):Ai w w.heap.size d cs:=h w (Nat.le_refl _) fun _ _ _=>rfl
theorem Aq.now {S:Nat->Prop} {w:World} {l:List D} {cs:List Value} (h:Aq S w l cs):Ah w w.heap.size l cs:=h w (Nat.le_refl _) fun _ _ _=>rfl
theorem Ag.mono {S T:Nat->Prop} {w:World} {d:D} {cs:List Value} (h:Ag S w d cs) (hST: ∀i,i<w.heap.size->S i->T i):Ag T w d cs:=
 fun w'' h1 h2=>h w'' h1 fun p p1 p2=>h2 p (hST _ p2 p1) p2
theorem Ag.of_old {B:Nat} {w w':World} {d:D} {cs:List Value} (h:Ai w B d cs) (hB:B<=w.heap.size) (hb:Below B w w'):Ag (fun i=>i<B) w' d cs:=fun _ _ h2=>
 (h.keep (fun p hp=>(h2 p hp (Nat.lt_of_lt_of_le hp (Nat.le_trans hB hb.size))).trans (hb.cell hp))).more (Nat.le_trans hB hb.size)
theorem Ag.later {S:Nat->Prop} {w w':World} {d:D} {cs:List Value} (h:Ag S w d cs) (hs:w.heap.size<=w'.heap.size) (hk: ∀p:Addr,S p.block->p.block<w.heap.size->w'.cell? p=w.cell? p):Ag S w' d cs:=fun w'' h1 h2=>
 (h w'' (Nat.le_trans hs h1) fun p p1 p2=>(h2 p p1 (Nat.lt_of_lt_of_le p2 hs)).trans (hk p p1 p2)).more hs
theorem Ag.below {S:Nat->Prop} {w w':World} {d:D} {cs:List Value} (h:Ag S w d cs) (hb:Below w.heap.size w w'):Ag S w' d cs:=h.later hb.size fun _ _ p2=>hb.cell p2
theorem Aq.one {S:Nat->Prop} {w:World} {d:D} {cs:List Value} (h:Ag S w d cs):Aq S w [d] cs:=fun w'' h1 h2=>Ah.one (h w'' h1 h2)
theorem Aq.app {S:Nat->Prop} {w:World} {l r:List D} {cs es:List Value} (h:Aq S w l cs) (k:Aq S w r es):Aq S w (l++r) (cs++es):=fun w'' h1 h2=>(h w'' h1 h2).app (k w'' h1 h2)
theorem Ag.blk {S:Nat->Prop} {w:World} {g:Nat} {t:TypeId} {cs:Array Value} {l:List D} {s n c:Nat} (h:Ao w g t cs) (hS:S g) (hs: ∀d ∈ l,d.cells=s) (hA:Aq S w l cs.toList) (hn:n=l.length):Ag S w (.row s l) [.slice (some ⟨g,0,none⟩) n c]:=by
 subst hn;intro w'' h1 h2;exact⟨_,c,rfl,hs,cs.toList,hA w'' h1 h2,.inr ⟨g,0,rfl,h.lt,fun j u hu=>by
  rw[Nat.zero_add,h2 ⟨g,j,none⟩ hS h.lt];exact(h.cell j).trans (by rw[<-Array.getElem?_toList];exact hu)⟩⟩
def An (S0:Nat->Prop) (b:Nat) (t:TypeId) (s:Nat) (wr:World) (l:List D) (V:Value):Prop:=
 ∃ns,wr.ownsRow b t s V l.length ns/\(∀d ∈ l,d.cells=s)/\Aq (fun i=>S0 i/\V.ownBlock≠some i) wr l ns
theorem An.nil (S0:Nat->Prop) (b:Nat) (t:TypeId) (s:Nat) (wr:World):An S0 b t s wr [] (.slice none 0 0):=⟨[],World.ownsRow_nil _ _ _ _,fun d hd=>(by cases hd),fun _ _ _=>rfl⟩
theorem An.base {S0:Nat->Prop} {b:Nat} {t:TypeId} {s:Nat} {wr:World} {l:List D} {V:Value} (h:An S0 b t s wr l V): ∀g,V.ownBlock=some g->b<=g/\g<wr.heap.size:=by
 obtain⟨ns,h1,_⟩:=h;exact h1.lt
theorem An.keep {S0:Nat->Prop} {b:Nat} {t:TypeId} {s:Nat} {wr w':World} {l:List D} {V:Value} (h:An S0 b t s wr l V) (hs:wr.heap.size<=w'.heap.size) (hk: ∀i,i<wr.heap.size->w'.heap[i]? =wr.heap[i]?):An S0 b t s w' l V:=by
 obtain⟨ns,h1,h2,h3⟩:=h;refine⟨ns,⟨h1.1, ?_⟩,h2,fun w'' k1 k2=>Ah.more (h3 w'' (by omega) (fun p p1 p2=>(k2 p p1 (by omega)).trans (World.cell?_of_block (hk p.block p2)))) hs⟩;rcases h1.2 with⟨rfl,h0⟩|⟨g,cap,cur,rfl,hbg,hg,h5⟩
 . exact .inl ⟨rfl,h0⟩
 . exact .inr ⟨g,cap,cur,rfl,hbg,(hk g (Array.getElem?_eq_some_iff.1 hg).1).trans hg,h5⟩
theorem An.below {S0:Nat->Prop} {b:Nat} {t:TypeId} {s:Nat} {wr w':World} {l:List D} {V:Value} (h:An S0 b t s wr l V) (hb:Below wr.heap.size wr w'):An S0 b t s w' l V:=h.keep hb.size fun i hi=>hb.block i hi
theorem An.slice {S0:Nat->Prop} {b:Nat} {t:TypeId} {s:Nat} {wr:World} {l:List D} {V:Value} (h:An S0 b t s wr l V): ∃a c,V=.slice a l.length c:=by
 obtain⟨ns,h1,_⟩:=h;rcases h1.2 with⟨rfl,h0⟩|⟨g,cap,cur,rfl,_⟩
 . exact⟨_,_,by rw[h0]⟩
 . exact⟨_,_,rfl⟩
theorem An.slice_n {S0:Nat->Prop} {b:Nat} {t:TypeId} {s n:Nat} {wr:World} {l:List D} {V:Value} (h:An S0 b t s wr l V) (hn:l.length=n): ∃a c,V=.slice a n c:=by
 subst hn;exact h.slice
theorem An.close {S0:Nat->Prop} {b:Nat} {t:TypeId} {s:Nat} {wr:World} {l:List D} {a:Option Addr} {n c:Nat} (h:An S0 b t s wr l (.slice a n c)):Ai wr wr.heap.size (.row s l) [.slice a n c]:=by
 obtain⟨ns,h1,h2,h3⟩:=h;have h1':=h1;rcases h1.2 with⟨e,h0⟩|⟨g,cap,cur,e,hbg,hg,hnc,_⟩
 . cases e
   have hl:l= []:=List.eq_nil_of_length_eq_zero h0;subst hl;exact⟨none,0,rfl,h2, [],rfl,.inl rfl⟩
 . cases e
   have hgl:=(Array.getElem?_eq_some_iff.1 hg).1;refine⟨_,_,rfl,h2,ns,h3.now,.inr ⟨g,0,rfl,hgl,fun j u hu=> ?_⟩⟩;have h5:=h1'.cells (g:=g) rfl j u hu
   rwa [A5]at h5
theorem An.closeIn {S0:Nat->Prop} {b:Nat} {t:TypeId} {s:Nat} {wr:World} {l:List D} {a:Option Addr} {n c:Nat} (h:An S0 b t s wr l (.slice a n c)):Ag (fun i=>S0 i\/(Value.slice a n c).ownBlock=some i) wr (.row s l) [.slice a n c]:=by
 obtain⟨ns,h1,h2,h3⟩:=h;have h1':=h1;intro w'' k1 k2;have hA:=h3 w'' k1 fun p p1 p2=>k2 p (.inl p1.1) p2;rcases h1.2 with⟨e,h0⟩|⟨g,cap,cur,e,hbg,hg,hnc,_⟩
 . cases e
   have hl:l= []:=List.eq_nil_of_length_eq_zero h0;subst hl;exact⟨none,0,rfl,h2, [],rfl,.inl rfl⟩
 . cases e
   have hgl:=(Array.getElem?_eq_some_iff.1 hg).1;refine⟨_,_,rfl,h2,ns,hA,.inr ⟨g,0,rfl,hgl,fun j u hu=> ?_⟩⟩;have h5:=h1'.cells (g:=g) rfl j u hu;rw[A5]at h5;exact(k2 ⟨g,0+j,none⟩ (.inr rfl) hgl).trans h5
section
variable {P:Program}
theorem Gv {t ty e:TypeId} {i:TypeInfo} {z:Value} {sz bytes:Nat} (ht:P.underlying t=some (.slice e)) (hi:P.info? e=some i) (hz:i.zero=some z) (hsize:i.size=sz) (hby:i.bytes=bytes) (hzs:z.cells.size=sz) (hsz:0<sz)
 {S0:Nat->Prop} {b:Nat} {w:World} {l:List D} {V:Value} (hrow:An S0 b e sz w l V) (hbw:b<=w.heap.size) {d:D} {cs:List Value} (hd:d.cells=sz) (hx:Ag (fun i=>S0 i/\V.ownBlock≠some i) w d cs)
 {B:Nat} {A:Option Addr} {c:Nat} (hr:A4 w B sz A 1 cs) (h63:l.length+1<=maxLen) (hbytes:(l.length+1)*bytes<=140737488355328):
 ∃V' w6,(Builtin.append_ #[t,t] ty #[V,.slice A 1 c]).run P w=.ok V' w6/\An S0 b e sz w6 (l++ [d]) V'/\w.grownBy w6 V.ownBlock/\(V'.ownBlock=V.ownBlock\/V'.ownBlock=some w.heap.size):=by
 obtain⟨ns,h1,h2,h3⟩:=hrow;obtain⟨V',w6,hrun,g1,g2,g3⟩:=Eb (P:=P) w b t ty e i z sz bytes ht hi hz hsize hby hzs hsz V l.length ns h1 B A 1 c cs hr hx.now.len.2 h63 hbytes hbw;refine⟨V',w6,hrun,⟨ns++cs,by rw[List.length_append];exact g1, ?_, ?_⟩,g2,g3⟩
 . intro x hx';rcases List.mem_append.1 hx' with hx'|hx'
   . exact h2 x hx'
   . simp only[List.mem_cons,List.not_mem_nil,or_false]at hx';rw[hx'];exact hd
 . have key: ∀p:Addr,V.ownBlock≠some p.block->p.block<w.heap.size->V'.ownBlock≠some p.block:=by
    intro p p1 p2;rcases g3 with e3|e3
    . rw[e3];exact p1
    . rw[e3];intro e4;have:=Option.some.inj e4;omega
   have hag: ∀w'':World,w6.heap.size<=w''.heap.size->(∀p:Addr,S0 p.block/\V'.ownBlock≠some p.block->p.block<w6.heap.size->w''.cell? p=w6.cell? p)-> ∀p:Addr,S0 p.block/\V.ownBlock≠some p.block->p.block<w.heap.size->w''.cell? p=w.cell? p:=by
    intro w'' k1 k2 p p1 p2;rw[k2 p ⟨p1.1,key p p1.2 p2⟩ (Nat.lt_of_lt_of_le p2 g2.size)];exact World.cell?_of_block (g2.block p.block p2 (fun e=>p1.2 e.symm))
   intro w'' k1 k2;have a1:=Ah.more (h3 w'' (Nat.le_trans g2.size k1) (hag w'' k1 k2)) g2.size;have a2:=Ai.more (hx w'' (Nat.le_trans g2.size k1) (hag w'' k1 k2)) g2.size;exact a1.snoc a2
theorem Lt {o:Oper} {a:Act} {w:World} {K:Act->World->Prop} {Q:Exit->Act->World->Prop} (s x:Operand) (t:TypeId) {e:TypeId}
 (ho:o.op=.call {callee:=.builtin .append,args:= #[s,x],argTypes:= #[t,t]}) {i:TypeInfo} {z:Value} {sz bytes:Nat} (ht:P.underlying t=some (.slice e)) (hi:P.info? e=some i) (hz:i.zero=some z) (hsize:i.size=sz) (hby:i.bytes=bytes) (hzs:z.cells.size=sz) (hsz:0<sz)
 {S0:Nat->Prop} {b:Nat} {l:List D} {V:Value} (hs:a.eval s=V) (hrow:An S0 b e sz w l V) (hbw:b<=w.heap.size) {d:D} {cs:List Value} (hd:d.cells=sz) (hf:Ag (fun i=>S0 i/\V.ownBlock≠some i) w d cs)
 {B:Nat} {A:Option Addr} {c:Nat} (hx:a.eval x=.slice A 1 c) (hr:A4 w B sz A 1 cs) (h63:l.length+1<=maxLen) (hbytes:(l.length+1)*bytes<=140737488355328)
 (h: ∀V' w6,An S0 b e sz w6 (l++ [d]) V'->w.grownBy w6 V.ownBlock->(V'.ownBlock=V.ownBlock\/V'.ownBlock=some w.heap.size)->K (a.put o.dst V') w6):o.wp P a w K Q:=by
 obtain⟨V',w6,hrun,g1,g2,g3⟩:=Gv (ty:=o.type) (c:=c) ht hi hz hsize hby hzs hsz hrow hbw hd hf hr h63 hbytes;unfold Oper.wp execOp;simp only[ho,resolve,invoke,builtin,Sem.run_bind,Sem.run_pure,Result.andThen_ok,List.map_toArray,List.map_cons,List.map_nil,hs,hx,hrun];exact h V' w6 g1 g2 g3
theorem B7 {ops:Array Oper} {rest:List Oper} {o:Oper} {a:Act} {w:World} {Q:Exit->Act->World->Prop} (hgd:o.guard=none) (s x:Operand) (t:TypeId) {e:TypeId}
 (ho:o.op=.call {callee:=.builtin .append,args:= #[s,x],argTypes:= #[t,t]}) {i:TypeInfo} {z:Value} {sz bytes:Nat} (ht:P.underlying t=some (.slice e)) (hi:P.info? e=some i) (hz:i.zero=some z) (hsize:i.size=sz) (hby:i.bytes=bytes) (hzs:z.cells.size=sz) (hsz:0<sz)
 {S0:Nat->Prop} {b:Nat} {l:List D} {V:Value} (hs:a.eval s=V) (hrow:An S0 b e sz w l V) (hbw:b<=w.heap.size) {d:D} {cs:List Value} (hd:d.cells=sz) (hf:Ag (fun i=>S0 i/\V.ownBlock≠some i) w d cs)
 {B:Nat} {A:Option Addr} {c:Nat} (hx:a.eval x=.slice A 1 c) (hr:A4 w B sz A 1 cs) (h63:l.length+1<=maxLen) (hbytes:(l.length+1)*bytes<=140737488355328)
 (h: ∀V' w6,An S0 b e sz w6 (l++ [d]) V'->w.grownBy w6 V.ownBlock->(V'.ownBlock=V.ownBlock\/V'.ownBlock=some w.heap.size)->wpList P ops Q rest (a.put o.dst V') w6):wpList P ops Q (o::rest) a w:=
 wpList_plain hgd fun _ hK=>Lt s x t ho ht hi hz hsize hby hzs hsz hs hrow hbw hd hf hx hr h63 hbytes fun V' w6 h2 h3 h4=>hK _ _ (h V' w6 h2 h3 h4)
theorem F2 {ops:Array Oper} {o:Oper} {a:Act} {w:World} {K:Act->World->Prop} {Q:Exit->Act->World->Prop} {E:Prop} (hgd:o.guard=none) (s x:Operand) (t:TypeId) {e:TypeId}
 (ho:o.op=.call {callee:=.builtin .append,args:= #[s,x],argTypes:= #[t,t]}) {i:TypeInfo} {z:Value} {sz bytes:Nat} (ht:P.underlying t=some (.slice e)) (hi:P.info? e=some i) (hz:i.zero=some z) (hsize:i.size=sz) (hby:i.bytes=bytes) (hzs:z.cells.size=sz) (hsz:0<sz)
 {S0:Nat->Prop} {b:Nat} {l:List D} {V:Value} (hs:a.eval s=V) (hrow:An S0 b e sz w l V) (hbw:b<=w.heap.size) {d:D} {cs:List Value} (hd:d.cells=sz) (hf:Ag (fun i=>S0 i/\V.ownBlock≠some i) w d cs)
 {B:Nat} {A:Option Addr} {c:Nat} (hx:a.eval x=.slice A 1 c) (hr:A4 w B sz A 1 cs) (h63:l.length+1<=maxLen) (hbytes:(l.length+1)*bytes<=140737488355328)
 (h: ∀V' w6,An S0 b e sz w6 (l++ [d]) V'->w.grownBy w6 V.ownBlock->(V'.ownBlock=V.ownBlock\/V'.ownBlock=some w.heap.size)->K (a.put o.dst V') w6):
 if Region.wanted o (yielded ops a.tmps)=true then Oper.wp P o a w K Q else E:=by
 have hw:Region.wanted o (yielded ops a.tmps)=true:=by simp[Region.wanted,hgd]
 rw[if_pos hw];exact Lt s x t ho ht hi hz hsize hby hzs hsz hs hrow hbw hd hf hx hr h63 hbytes h
end
theorem An.lit {S0:Nat->Prop} {b:Nat} {t:TypeId} {w:World} {d:D} {cs:Array Value} (hb:b<=w.heap.size) (hd:d.cells=cs.size) (h:Ag (fun i=>S0 i/\i≠w.heap.size) (w.alloc (.cells cs t)) d cs.toList):
 An S0 b t cs.size (w.alloc (.cells cs t)) [d] (.slice (some ⟨w.heap.size,0,none⟩) 1 1):=by
 refine⟨cs.toList,⟨by simp,.inr ⟨w.heap.size,1,cs,rfl,hb,heap_alloc_new w _,Nat.le_refl _,by unfold maxLen;omega,by simp, ?_⟩⟩,fun x hx=> ?_,Aq.one (h.mono fun i _ hi=>⟨hi.1,fun e=>hi.2 (Option.some.inj (e:some w.heap.size=some i)).symm⟩)⟩
 . simp only[List.length_cons,List.length_nil,Nat.zero_add,Nat.one_mul];rw[<-Array.length_toList,List.take_length]
 . simp only[List.mem_cons,List.not_mem_nil,or_false]at hx;rw[hx];exact hd
section
variable {P:Program}
theorem Qf {t ty e:TypeId} {i:TypeInfo} {z:Value} {sz bytes:Nat} (ht:P.underlying t=some (.slice e)) (hi:P.info? e=some i) (hz:i.zero=some z) (hsize:i.size=sz) (hby:i.bytes=bytes) (hzs:z.cells.size=sz) (hsz:0<sz)
 {S0:Nat->Prop} {b:Nat} {w:World} {l:List D} {V:Value} (hrow:An S0 b e sz w l V) (hbw:b<=w.heap.size) {dl:List D} {cs:List Value} (hd: ∀d ∈ dl,d.cells=sz) (hx:Aq (fun i=>S0 i/\V.ownBlock≠some i) w dl cs)
 {B:Nat} {A:Option Addr} {n c:Nat} (hr:A4 w B sz A n cs) (hn:n=dl.length) (h63:l.length+n<=maxLen) (hbytes:(l.length+n)*bytes<=140737488355328):
 ∃V' w6,(Builtin.append_ #[t,t] ty #[V,.slice A n c]).run P w=.ok V' w6/\An S0 b e sz w6 (l++dl) V'/\w.grownBy w6 V.ownBlock/\(V'.ownBlock=V.ownBlock\/V'.ownBlock=some w.heap.size):=by
 subst hn;obtain⟨ns,h1,h2,h3⟩:=hrow;obtain⟨V',w6,hrun,g1,g2,g3⟩:=Eb (P:=P) w b t ty e i z sz bytes ht hi hz hsize hby hzs hsz V l.length ns h1 B A dl.length c cs hr hx.now.len.2 h63 hbytes hbw;refine⟨V',w6,hrun,⟨ns++cs,by rw[List.length_append];exact g1, ?_, ?_⟩,g2,g3⟩
 . intro x hx';rcases List.mem_append.1 hx' with hx'|hx'
   . exact h2 x hx'
   . exact hd x hx'
 . have key: ∀p:Addr,V.ownBlock≠some p.block->p.block<w.heap.size->V'.ownBlock≠some p.block:=by
    intro p p1 p2;rcases g3 with e3|e3
    . rw[e3];exact p1
    . rw[e3];intro e4;have:=Option.some.inj e4;omega
   have hag: ∀w'':World,w6.heap.size<=w''.heap.size->(∀p:Addr,S0 p.block/\V'.ownBlock≠some p.block->p.block<w6.heap.size->w''.cell? p=w6.cell? p)-> ∀p:Addr,S0 p.block/\V.ownBlock≠some p.block->p.block<w.heap.size->w''.cell? p=w.cell? p:=by
    intro w'' k1 k2 p p1 p2;rw[k2 p ⟨p1.1,key p p1.2 p2⟩ (Nat.lt_of_lt_of_le p2 g2.size)];exact World.cell?_of_block (g2.block p.block p2 (fun e=>p1.2 e.symm))
   intro w'' k1 k2;have a1:=Ah.more (h3 w'' (Nat.le_trans g2.size k1) (hag w'' k1 k2)) g2.size;have a2:=Ah.more (hx w'' (Nat.le_trans g2.size k1) (hag w'' k1 k2)) g2.size;exact a1.app a2
theorem So {o:Oper} {a:Act} {w:World} {K:Act->World->Prop} {Q:Exit->Act->World->Prop} (s x:Operand) (t:TypeId) {e:TypeId}
 (ho:o.op=.call {callee:=.builtin .append,args:= #[s,x],argTypes:= #[t,t]}) {i:TypeInfo} {z:Value} {sz bytes:Nat} (ht:P.underlying t=some (.slice e)) (hi:P.info? e=some i) (hz:i.zero=some z) (hsize:i.size=sz) (hby:i.bytes=bytes) (hzs:z.cells.size=sz) (hsz:0<sz)
 {S0:Nat->Prop} {b:Nat} {l:List D} {V:Value} (hs:a.eval s=V) (hrow:An S0 b e sz w l V) (hbw:b<=w.heap.size) {dl:List D} {cs:List Value} (hd: ∀d ∈ dl,d.cells=sz) (hf:Aq (fun i=>S0 i/\V.ownBlock≠some i) w dl cs)
 {B:Nat} {A:Option Addr} {n c:Nat} (hx:a.eval x=.slice A n c) (hr:A4 w B sz A n cs) (hn:n=dl.length) (h63:l.length+n<=maxLen) (hbytes:(l.length+n)*bytes<=140737488355328)
 (h: ∀V' w6,An S0 b e sz w6 (l++dl) V'->w.grownBy w6 V.ownBlock->(V'.ownBlock=V.ownBlock\/V'.ownBlock=some w.heap.size)->K (a.put o.dst V') w6):o.wp P a w K Q:=by
 obtain⟨V',w6,hrun,g1,g2,g3⟩:=Qf (ty:=o.type) (c:=c) ht hi hz hsize hby hzs hsz hrow hbw hd hf hr hn h63 hbytes;unfold Oper.wp execOp;simp only[ho,resolve,invoke,builtin,Sem.run_bind,Sem.run_pure,Result.andThen_ok,List.map_toArray,List.map_cons,List.map_nil,hs,hx,hrun];exact h V' w6 g1 g2 g3
theorem Cj {ops:Array Oper} {rest:List Oper} {o:Oper} {a:Act} {w:World} {Q:Exit->Act->World->Prop} (hgd:o.guard=none) (s x:Operand) (t:TypeId) {e:TypeId}
 (ho:o.op=.call {callee:=.builtin .append,args:= #[s,x],argTypes:= #[t,t]}) {i:TypeInfo} {z:Value} {sz bytes:Nat} (ht:P.underlying t=some (.slice e)) (hi:P.info? e=some i) (hz:i.zero=some z) (hsize:i.size=sz) (hby:i.bytes=bytes) (hzs:z.cells.size=sz) (hsz:0<sz)
 {S0:Nat->Prop} {b:Nat} {l:List D} {V:Value} (hs:a.eval s=V) (hrow:An S0 b e sz w l V) (hbw:b<=w.heap.size) {dl:List D} {cs:List Value} (hd: ∀d ∈ dl,d.cells=sz) (hf:Aq (fun i=>S0 i/\V.ownBlock≠some i) w dl cs)
 {B:Nat} {A:Option Addr} {n c:Nat} (hx:a.eval x=.slice A n c) (hr:A4 w B sz A n cs) (hn:n=dl.length) (h63:l.length+n<=maxLen) (hbytes:(l.length+n)*bytes<=140737488355328)
 (h: ∀V' w6,An S0 b e sz w6 (l++dl) V'->w.grownBy w6 V.ownBlock->(V'.ownBlock=V.ownBlock\/V'.ownBlock=some w.heap.size)->wpList P ops Q rest (a.put o.dst V') w6):wpList P ops Q (o::rest) a w:=
 wpList_plain hgd fun _ hK=>So s x t ho ht hi hz hsize hby hzs hsz hs hrow hbw hd hf hx hr hn h63 hbytes fun V' w6 h2 h3 h4=>hK _ _ (h V' w6 h2 h3 h4)
end
def Xf {α:Type} (P:Program) (gf:Nat) (lb:Array Value) (encs:α->Array Value) (xs:List α) (N:World->Prop):Prop:=
 ∀(n l:Nat) (J:List α->World->Prop) (W:World),(∀s A B,J s A->Below A.heap.size A B->J s B)->(∀s A,J s A->N A)->
  (∀pre x rest A,xs=pre++x::rest->J pre A->YieldAt Fence.wide n P l (encs x) A fun e B=>e=.returned (.bool true)/\J (pre++ [x]) B)->
  J [] W->CallsIn Fence.wide (n+1) P gf (#[.func (.yield l) #[] #[]]++lb) W fun e B=>(∃v,e=.returned v)/\J xs B
def Kx (I:World->Prop) (d:Nat) (W:World):Exit->Act->World->Prop
 | .normal,_,W'=>W'.heap[d]? =W.heap[d]? /\W'.heap[d+1]? =W.heap[d+1]? /\I W'
 |_,_,_=>False
theorem Qn {α:Type} {P:Program} {g:Operand} {ps:Array Tmp} {assign body:Code} {Q:Exit->Act->World->Prop} {a:Act} {w:World} {n:Nat}
 {gf:Nat} {lb:Array Value} (hg:a.eval g=.func (.func gf) #[] lb) (eg: ∀args w,(callFunc gf args).run P w=.ok (.enter gf args) w)
 {encs:α->Array Value} {xs:List α} {N:World->Prop} (hit:Xf P gf lb encs xs N) (hps: ∀x,(encs x).size=ps.size)
 (I:List α->World->Prop) (hIn: ∀s A B,I s A->Below A.heap.size A B->I s B)
 (hIp: ∀s A k o o',I s A->A.heap[k]? =some o->o.isCells=false->(k=w.heap.size\/k=w.heap.size+1)->I s (A.putObj k o'))
 (hIb: ∀s A,I s A->N A) (h0:I [] w) (a₁:α->Act)
 (hassign: ∀(l:Nat) (x:α) (W:World) (K:Act->World->Prop),K (a₁ x) W->
   assign.wpIn (Fence.wide.inRound l) n P (Exit.then K (fun _ _ _=>False)) {tmps:=(ps.zip (encs x)).foldl (fun t (p,v)=>t.setIfInBounds p v) a.tmps,defers:= []} W)
 (hbody: ∀(l:Nat) (pre:List α) (x:α) (rest:List α) (W:World),xs=pre++x::rest->I pre W->(∃ds,W.heap[w.heap.size]? =some (.deferred ds))->(∃r,W.heap[w.heap.size+1]? =some (.loop r))->
   body.wpIn (Fence.wide.inRound l) n P (Kx (I (pre++ [x])) w.heap.size W) (a₁ x) W)
 (hdone: ∀(W:World),I xs W->W.heap[w.heap.size]? =some (.deferred (some []))->Q .normal {a with defers:={target:=.collected w.heap.size,args:= #[]}::a.defers} W):
 (Code.rangeFunc g ps assign body).wpIn Fence.wide (n+1+1) P Q a w:=by
 refine wpIn_rangeFunc ?_;intro fn hfn;have hro:Fence.wide.round=none:=rfl;rw[hro];obtain⟨rec,hrec⟩: ∃rec:LoopState->Option Code->Loop,rec=fun st pe=>{state:=st,pending:=pe,fn,tmps:=a.tmps,params:=ps,assign,body,defers:=w.heap.size}:=⟨_,rfl⟩;obtain⟨W1,hW1⟩: ∃W1,(w.alloc (.deferred (some []))).alloc (.loop (rec .ready none))=W1:=⟨_,rfl⟩;have hL1:W1.heap[w.heap.size+1]? =some (.loop (rec .ready none)):=by
  rw[<-hW1];have:=World.alloc_heap_new (w.alloc (.deferred (some []))) (.loop (rec .ready none));rwa [World.size_alloc]at this
 have hK1:W1.heap[w.heap.size]? =some (.deferred (some [])):=by
  rw[<-hW1];exact(Below.heap_alloc _ _ _ (by simp)).trans (World.alloc_heap_new w _)
 have hI1:I [] W1:=by
  rw[<-hW1];exact hIn _ _ _ h0 (((Below.refl _ w).alloc (Nat.le_refl _) _).alloc (by simp) _)
 refine⟨w.heap.size+1, [{target:=.collected w.heap.size,args:= #[]}],W1,{target:=.fn (.func gf) lb,args:= #[.func (.yield (w.heap.size+1)) #[] #[]]},W1,gf,
  #[.func (.yield (w.heap.size+1)) #[] #[]]++lb,W1, ?_, ?_, ?_, ?_,fun h=>by simp[Fence.wide]at h, ?_⟩
 . rw[<-hW1,hrec];exact run_enterLoop_outer _ _ _ _ _
 . simp only[resolve,hg];simp[go_sem]
 . intro f' _;trivial
 . simp[invoke,go_sem,eg]
 . refine(hit n (w.heap.size+1)
    (fun pre W=>I pre W/\W.heap[w.heap.size+1]? =some (.loop (rec .ready none))/\W.heap[w.heap.size]? =some (.deferred (some [])))
    W1 (fun s A B hs hb=>⟨hIn s A B hs.1 hb,(hb.block _ (Array.getElem?_eq_some_iff.1 hs.2.1).1).trans hs.2.1,(hb.block _ (Array.getElem?_eq_some_iff.1 hs.2.2).1).trans hs.2.2⟩)
    (fun s A hs=>hIb s A hs.1) ?_ ⟨hI1,hL1,hK1⟩).mono ?_
   ·
    rintro pre x rest W hx ⟨hi,hl,hk⟩;have hlt:w.heap.size+1<W.heap.size:=(Array.getElem?_eq_some_iff.1 hl).1;have hy:=run_yield (P:=P) (args:=encs x) hl (by rw[hrec];exact hps x);rw[hrec]at hy;refine⟨fn,_,assign,body,hy,roundIn_of_wpIn trivial (hassign _ x W _ ⟨_,run_beginRound hl (by rw[hrec]), ?_⟩)⟩;have hl2:(W.putObj (w.heap.size+1) (.loop {rec .ready none with state:=.busy})).heap[w.heap.size+1]? =some (.loop {rec .ready none with state:=.busy}):=World.putObj_heap_same hlt;have hk2:(W.putObj (w.heap.size+1) (.loop {rec .ready none with state:=.busy})).heap[w.heap.size]? =some (.deferred (some [])):=(World.putObj_heap_other (by omega)).trans hk;refine wpIn_mono (hbody _ pre x rest _ hx (hIp _ _ _ _ _ hi hl rfl (.inr rfl)) ⟨_,hk2⟩ ⟨_,hl2⟩) ?_;rintro e a3 W3 hp
    cases e with
    |normal=>
     obtain⟨h1,h2,hi3⟩:=hp;have hl3:=h2.trans hl2;have hk3:=h1.trans hk2;have hr:=run_endRound (P:=P) none hl3;rw[hrec]at hr;refine⟨_,_,hr,rfl,hIp _ _ _ _ _ hi3 hl3 rfl (.inr rfl), ?_, ?_⟩
     . rw[World.putObj_heap_same (Array.getElem?_eq_some_iff.1 hl3).1,hrec];rfl
     . exact(World.putObj_heap_other (by omega)).trans hk3
    |ret=>exact hp.elim
    |exit id=>exact hp.elim
    |goto t=>exact hp.elim
    |panic ch=>exact hp.elim
    |outgrown=>exact hp.elim
   ·
    rintro e W2 ⟨⟨v,rfl⟩,hi,hl,hk⟩;exact⟨none,_,by have:=run_endLoop (P:=P) hl (by rw[hrec];simp);rw[hrec]at this;exact this,hdone _ (hIp _ _ _ _ _ hi hl rfl (.inr rfl)) ((World.putObj_heap_other (by omega)).trans hk)⟩
end Go.Proofs.YtdbejcbbhomdbaaGreatDoor
