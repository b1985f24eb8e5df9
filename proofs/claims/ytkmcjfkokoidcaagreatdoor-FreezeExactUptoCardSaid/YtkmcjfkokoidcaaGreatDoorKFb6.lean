/- Parts: Rows: a part of one, one more put in, one replaced. Plain. No condition. -/
import Derived.Test.YtkmcjfkokoidcaaGreatDoorKFb2
import Derived.Test.YtkmcjfkokoidcaaGreatDoorKFb3
import Derived.Test.YtkmcjfkokoidcaaGreatDoorKFb4
set_option maxHeartbeats 20000000
namespace Go.Proofs.YtkmcjfkokoidcaaGreatDoor
open Go.RowKit
mutual
def dV:Val->D
 | .mk k b n t l o=> .agg [.leaf (.int .i64 k),.leaf (.bool b),.leaf (.int .i64 n),.leaf (.string t),.row 6 (dL l),.row 7 (dO o)]
def dL:List Val->List D
 | []=> []
 |v::r=>dV v::dL r
def dO:List (ByteArray×Val)->List D
 | []=> []
 |p::r=>dP p::dO r
def dP:ByteArray×Val->D
 |(key,v)=> .agg [.leaf (.string key),dV v]
end
theorem Jt: ∀l,dL l=l.map dV
 | []=>rfl
 |v::r=>by simp[dL,Jt r]
theorem Bl: ∀l,dO l=l.map dP
 | []=>rfl
 |v::r=>by simp[dO,Bl r]
theorem Eb (v:Val):(dV v).cells=6:=by
 obtain⟨k,b,n,t,l,o⟩:=v;rfl
theorem Cs (p:ByteArray×Val):(dP p).cells=7:=by
 obtain⟨k,v⟩:=p;simp only[dP,D.cells,Js,Eb]
theorem Ws (l:List Val): ∀d ∈ dL l,d.cells=6:=by
 rw[Jt];intro d hd;obtain⟨v,_,rfl⟩:=List.mem_map.1 hd;exact Eb v
theorem F2 (l:List (ByteArray×Val)): ∀d ∈ dO l,d.cells=7:=by
 rw[Bl];intro d hd;obtain⟨v,_,rfl⟩:=List.mem_map.1 hd;exact Cs v
theorem L9 (l:List Val):(dL l).length=l.length:=by rw[Jt,List.length_map]
theorem Ax (l:List (ByteArray×Val)):(dO l).length=l.length:=by rw[Bl,List.length_map]
theorem Ag.six {w:World} {B:Nat} {a b c d:Value} {e f:D} {cs:List Value}:
 Ag w B [.leaf a,.leaf b,.leaf c,.leaf d,e,f] cs ↔ ∃c4 c5,cs= [a,b,c,d]++(c4++c5)/\a.oneCell'=true/\b.oneCell'=true/\c.oneCell'=true/\d.oneCell'=true/\Ah w B e c4/\Ah w B f c5:=by
 constructor
 . rintro⟨_,_,rfl,⟨rfl,ha⟩,_,_,rfl,⟨rfl,hb⟩,_,_,rfl,⟨rfl,hc⟩,_,_,rfl,⟨rfl,hd⟩,c4,_,rfl,h4,c5,_,rfl,h5,rfl⟩;exact⟨c4,c5,by simp,ha,hb,hc,hd,h4,h5⟩
 . rintro⟨c4,c5,rfl,ha,hb,hc,hd,h4,h5⟩;exact⟨[a],_,rfl,⟨rfl,ha⟩, [b],_,rfl,⟨rfl,hb⟩, [c],_,rfl,⟨rfl,hc⟩, [d],_,rfl,⟨rfl,hd⟩,c4,_,rfl,h4,c5, [],by simp,h5,rfl⟩
theorem Ag.toL {w:World} {B:Nat} {g:Nat}: ∀{l:List Val},(∀v ∈ l,∀cs,Ah w B (dV v) cs->Ac w B v cs)-> ∀{ns:List Value} {off:Nat},Ag w B (dL l) ns->(∀j u,ns[j]? =some u->w.cell? ⟨g,off+j,none⟩=some u)->Ao w B l g off
 | [],_,_,_,_,_=>by simp[Ao]
 |v::r,ih,ns,off,h,hc=>by
  obtain⟨c1,c2,rfl,h1,h2⟩:=h;have hl:c1.length=6:=h1.len.1.trans (Eb v);simp only[Ao];refine⟨⟨c1,ih v (by simp) c1 h1,fun j u hu=>hc j u (by rw[List.getElem?_append_left (List.getElem?_eq_some_iff.1 hu).1];exact hu)⟩,Ag.toL (fun x hx=>ih x (by simp[hx])) h2 (fun j u hu=> ?_)⟩;rw[show off+6+j=off+(6+j)from by omega];refine hc (6+j) u ?_;rw[List.getElem?_append_right (by omega),hl,show 6+j - 6=j from by omega];exact hu
theorem Ag.toO {w:World} {B:Nat} {g:Nat}: ∀{l:List (ByteArray×Val)},(∀m ∈ l,∀cs,Ah w B (dV m.2) cs->Ac w B m.2 cs)-> ∀{ns:List Value} {off:Nat},Ag w B (dO l) ns->(∀j u,ns[j]? =some u->w.cell? ⟨g,off+j,none⟩=some u)->Ak w B l g off
 | [],_,_,_,_,_=>by simp[Ak]
 |(key,v)::r,ih,ns,off,h,hc=>by
  obtain⟨c1,c2,rfl,h1,h2⟩:=h;obtain⟨_,c3,rfl,⟨rfl,_⟩,cv,c4,rfl,h3,rfl⟩:=h1;have hl:cv.length=6:=h3.len.1.trans (Eb v);simp only[Ak,Kf];refine⟨⟨by have:=hc 0 (.string key) rfl;simpa using this,cv,ih (key,v) (by simp) cv h3,fun j u hu=> ?_⟩,Ag.toO (fun x hx=>ih x (by simp[hx])) h2 (fun j u hu=> ?_)⟩
  . have h5:=(List.getElem?_eq_some_iff.1 hu).1;rw[show off+1+j=off+(j+1)from by omega];refine hc (j+1) u ?_;simp only[List.append_nil,List.cons_append,List.nil_append,List.getElem?_cons_succ];rw[List.getElem?_append_left h5];exact hu
  . rw[show off+7+j=off+(6+j+1)from by omega];refine hc (6+j+1) u ?_;simp only[List.append_nil,List.cons_append,List.nil_append,List.getElem?_cons_succ];rw[List.getElem?_append_right (by omega),hl,show 6+j - 6=j from by omega];exact hu
theorem Cb {w:World} {B:Nat}: ∀(v:Val) cs,Ah w B (dV v) cs->Ac w B v cs:=by
 refine Val.ind ?_;intro k b n t l o hl ho cs h;simp only[dV,Ah]at h;obtain⟨c4,c5,rfl,_,_,_,_,⟨a4,n4,rfl,_,ns4,h4,i4⟩,⟨a5,n5,rfl,_,ns5,h5,i5⟩⟩:=Ag.six.1 h;simp only[Ac];refine⟨a4,n4,a5,n5,by simp[Ds,L9,Ax], ?_, ?_⟩
 . rcases i4 with e|⟨g,off,e,hg,hc⟩
   . refine .inl ?_
     cases l with
     |nil=>rfl
     |cons x r=>simp[dL]at e
   . exact .inr ⟨g,off,e,hg,Ag.toL hl h4 hc⟩
 . rcases i5 with e|⟨g,off,e,hg,hc⟩
   . refine .inl ?_
     cases o with
     |nil=>rfl
     |cons x r=>simp[dO]at e
   . exact .inr ⟨g,off,e,hg,Ag.toO ho h5 hc⟩
theorem Ag.ofL {w:World} {B:Nat} {g:Nat}: ∀{l:List Val},(∀v ∈ l,∀cs,Ac w B v cs->Ah w B (dV v) cs)-> ∀{off:Nat},Ao w B l g off-> ∃ns,Ag w B (dL l) ns/\ ∀j u,ns[j]? =some u->w.cell? ⟨g,off+j,none⟩=some u
 | [],_,_,_=>⟨[],rfl,fun j u h=>by simp at h⟩
 |v::r,ih,off,h=>by
  simp only[Ao]at h;obtain⟨⟨cs,h1,hc⟩,h2⟩:=h;have h1':=ih v (by simp) cs h1;have hl:cs.length=6:=h1'.len.1.trans (Eb v);obtain⟨ns,h3,h4⟩:=Ag.ofL (fun x hx=>ih x (by simp[hx])) h2;refine⟨cs++ns,⟨cs,ns,rfl,h1',h3⟩,fun j u hu=> ?_⟩;by_cases hj:j<6
  . rw[List.getElem?_append_left (by omega)]at hu;exact hc j u hu
  . rw[List.getElem?_append_right (by omega),hl]at hu;have:=h4 (j - 6) u hu
    rwa [show off+6+(j - 6)=off+j from by omega]at this
theorem Ag.ofO {w:World} {B:Nat} {g:Nat}: ∀{l:List (ByteArray×Val)},(∀m ∈ l,∀cs,Ac w B m.2 cs->Ah w B (dV m.2) cs)-> ∀{off:Nat},Ak w B l g off-> ∃ns,Ag w B (dO l) ns/\ ∀j u,ns[j]? =some u->w.cell? ⟨g,off+j,none⟩=some u
 | [],_,_,_=>⟨[],rfl,fun j u h=>by simp at h⟩
 |(key,v)::r,ih,off,h=>by
  simp only[Ak,Kf]at h;obtain⟨⟨h0,cs,h1,hc⟩,h2⟩:=h;have h1':=ih (key,v) (by simp) cs h1;have hl:cs.length=6:=h1'.len.1.trans (Eb v);obtain⟨ns,h3,h4⟩:=Ag.ofO (fun x hx=>ih x (by simp[hx])) h2;refine⟨(.string key::cs)++ns,⟨.string key::cs,ns,rfl,⟨[.string key],cs,rfl,⟨rfl,rfl⟩,cs, [],by simp,h1',rfl⟩,h3⟩,fun j u hu=> ?_⟩
  match j,hu with
  |0,hu=>
   simp at hu;subst hu;exact h0
  |j+1,hu=>
   simp only[List.cons_append,List.getElem?_cons_succ]at hu;by_cases hj:j<6
   . rw[List.getElem?_append_left (by omega)]at hu;have:=hc j u hu
     rwa [show off+1+j=off+(j+1)from by omega]at this
   . rw[List.getElem?_append_right (by omega),hl]at hu;have:=h4 (j - 6) u hu
     rwa [show off+7+(j - 6)=off+(j+1)from by omega]at this
theorem D3 {w:World} {B:Nat}: ∀(v:Val) cs,Ac w B v cs->Ah w B (dV v) cs:=by
 refine Val.ind ?_;intro k b n t l o hl ho cs h;simp only[Ac]at h;obtain⟨la,lc,oa,oc,rfl,h1,h2⟩:=h;simp only[dV,Ah];refine Ag.six.2 ⟨[.slice la l.length lc], [.slice oa o.length oc],rfl,rfl,rfl,rfl,rfl, ?_, ?_⟩
 . rcases h1 with rfl|⟨g,off,e,hg,h1⟩
   . exact⟨la,lc,rfl,Ws _, [],rfl,.inl rfl⟩
   . obtain⟨ns,h3,h4⟩:=Ag.ofL hl h1;exact⟨la,lc,by rw[L9],Ws _,ns,h3,.inr ⟨g,off,e,hg,h4⟩⟩
 . rcases h2 with rfl|⟨g,off,e,hg,h2⟩
   . exact⟨oa,oc,rfl,F2 _, [],rfl,.inl rfl⟩
   . obtain⟨ns,h3,h4⟩:=Ag.ofO ho h2;exact⟨oa,oc,by rw[Ax],F2 _,ns,h3,.inr ⟨g,off,e,hg,h4⟩⟩
theorem Ge {w:World} {g:Nat} {t:TypeId} {cs:Array Value} (h:Aj w g t cs):A7 w (g+1) cs.size (some ⟨g,0,none⟩) 1 cs.toList:=by
 refine⟨by simp,fun _=>⟨_,rfl,by simp,fun j u hu=> ?_⟩⟩;rw[Bf,Nat.zero_add];exact(h.cell j).trans (by rw[<-Array.getElem?_toList];exact hu)
theorem Dg.lit {b:Nat} {t:TypeId} {w:World} {d:D} {cs:Array Value} (hb:b<=w.heap.size) (hd:d.cells=cs.size) (h: ∀w'' B,Ah w'' B d cs.toList):
 Dg b t cs.size (w.alloc (.cells cs t)) [d] (.slice (some ⟨w.heap.size,0,none⟩) 1 1):=
 ⟨cs.toList,World.ownsRow_lit w cs 1 hb (by simp[maxLen]) (by simp),fun x hx=>by simp at hx;rw[hx];exact hd,fun w'' _ _=>Ag.one (h w'' _)⟩
theorem Dg.slice {b:Nat} {t:TypeId} {s:Nat} {wr:World} {l:List D} {V:Value} (h:Dg b t s wr l V): ∃a c,V=.slice a l.length c:=by
 obtain⟨ns,h1,_⟩:=h;rcases h1.2 with⟨rfl,h0⟩|⟨g,cap,cur,rfl,_⟩
 . exact⟨_,_,by rw[h0]⟩
 . exact⟨_,_,rfl⟩
theorem Dg.now {b:Nat} {t:TypeId} {s:Nat} {wr:World} {l:List D} {a:Option Addr} {n c:Nat} (h:Dg b t s wr l (.slice a n c)):Ah wr wr.heap.size (.row s l) [.slice a n c]:=by
 obtain⟨a',c',e,_,hf,_⟩:=h.close
 cases e
 exact hf.now
section
variable {P:Program}
theorem Vd {t ty e:TypeId} {i:TypeInfo} {z:Value} {sz bytes:Nat} (ht:P.underlying t=some (.slice e)) (hi:P.info? e=some i) (hz:i.zero=some z) (hsize:i.size=sz) (hby:i.bytes=bytes) (hzs:z.cells.size=sz) (hsz:0<sz)
 {b:Nat} {wr w:World} {l:List D} {V:Value} (hrow:Dg b e sz wr l V) (hbw:b<=wr.heap.size) (hbe:Below wr.heap.size wr w) {d:D} {cs:List Value} (hd:d.cells=sz) (hx:Br wr.heap.size w d cs)
 {B:Nat} {A:Option Addr} {c:Nat} (hr:A7 w B sz A 1 cs) (h63:l.length+1<=maxLen) (hbytes:(l.length+1)*bytes<=140737488355328):
 ∃V' w6,(Builtin.append_ #[t,t] ty #[V,.slice A 1 c]).run P w=.ok V' w6/\Dg b e sz w6 (l++ [d]) V'/\w.grownBy w6 V.ownBlock/\(V'.ownBlock=V.ownBlock\/V'.ownBlock=some w.heap.size):=by
 obtain⟨ns,h1,h2,h3⟩:=hrow.below hbe;have h1r:=hrow;obtain⟨ns0,k1,k2,k3⟩:=h1r;have hown:w.ownsRow b e sz V l.length ns0:=by
  refine k1.kept (row:=none) ⟨hbe.os,hbe.tape,hbe.output,hbe.size,fun j hj _=>hbe.block j hj⟩ ?_
  cases hv:V.ownBlock<;>simp
 obtain⟨V',w6,hrun,g1,g2,g3⟩:=F5 (P:=P) w b t ty e i z sz bytes ht hi hz hsize hby hzs hsz V l.length ns0 hown B A 1 c cs hr hx.now.len.2 h63 hbytes (Nat.le_trans hbw hbe.size);refine⟨V',w6,hrun, ?_,g2,g3⟩;refine Dg.step hbw k3 k2 hd hx (fun g hg=>(k1.lt g hg).2) g1 ?_ hbe.size g2.size (fun p _ p2=>hbe.cell p2) (fun p _ p2 p3=>World.cell?_of_block (g2.block p.block p2 (fun e=>p3 e.symm)));rcases g3 with g3|g3
 . exact .inl g3
 . exact .inr ⟨_,g3,Nat.le_refl _⟩
theorem P0 {o:Oper} {a:Act} {K:Act->World->Prop} {Q:Exit->Act->World->Prop} (s x:Operand) (t:TypeId) {e:TypeId}
 (ho:o.op=.call {callee:=.builtin .append,args:= #[s,x],argTypes:= #[t,t]}) {i:TypeInfo} {z:Value} {sz bytes:Nat} (ht:P.underlying t=some (.slice e)) (hi:P.info? e=some i) (hz:i.zero=some z) (hsize:i.size=sz) (hby:i.bytes=bytes) (hzs:z.cells.size=sz) (hsz:0<sz)
 {b:Nat} {wr w:World} {l:List D} {V:Value} (hs:a.eval s=V) (hrow:Dg b e sz wr l V) (hbw:b<=wr.heap.size) (hbe:Below wr.heap.size wr w) {d:D} {cs:List Value} (hd:d.cells=sz) (hf:Br wr.heap.size w d cs)
 {B:Nat} {A:Option Addr} {c:Nat} (hx:a.eval x=.slice A 1 c) (hr:A7 w B sz A 1 cs) (h63:l.length+1<=maxLen) (hbytes:(l.length+1)*bytes<=140737488355328)
 (h: ∀V' w6,Dg b e sz w6 (l++ [d]) V'->w.grownBy w6 V.ownBlock->(V'.ownBlock=V.ownBlock\/V'.ownBlock=some w.heap.size)->K (a.put o.dst V') w6):o.wp P a w K Q:=by
 obtain⟨V',w6,hrun,g1,g2,g3⟩:=Vd (ty:=o.type) (c:=c) ht hi hz hsize hby hzs hsz hrow hbw hbe hd hf hr h63 hbytes;unfold Oper.wp execOp;simp only[ho,resolve,invoke,builtin,Sem.run_bind,Sem.run_pure,Result.andThen_ok,List.map_toArray,List.map_cons,List.map_nil,hs,hx,hrun];exact h V' w6 g1 g2 g3
theorem Kb {ops:Array Oper} {rest:List Oper} {o:Oper} {a:Act} {Q:Exit->Act->World->Prop} (hgd:o.guard=none) (s x:Operand) (t:TypeId) {e:TypeId}
 (ho:o.op=.call {callee:=.builtin .append,args:= #[s,x],argTypes:= #[t,t]}) {i:TypeInfo} {z:Value} {sz bytes:Nat} (ht:P.underlying t=some (.slice e)) (hi:P.info? e=some i) (hz:i.zero=some z) (hsize:i.size=sz) (hby:i.bytes=bytes) (hzs:z.cells.size=sz) (hsz:0<sz)
 {b:Nat} {wr w:World} {l:List D} {V:Value} (hs:a.eval s=V) (hrow:Dg b e sz wr l V) (hbw:b<=wr.heap.size) (hbe:Below wr.heap.size wr w) {d:D} {cs:List Value} (hd:d.cells=sz) (hf:Br wr.heap.size w d cs)
 {B:Nat} {A:Option Addr} {c:Nat} (hx:a.eval x=.slice A 1 c) (hr:A7 w B sz A 1 cs) (h63:l.length+1<=maxLen) (hbytes:(l.length+1)*bytes<=140737488355328)
 (h: ∀V' w6,Dg b e sz w6 (l++ [d]) V'->w.grownBy w6 V.ownBlock->(V'.ownBlock=V.ownBlock\/V'.ownBlock=some w.heap.size)->wpList P ops Q rest (a.put o.dst V') w6):wpList P ops Q (o::rest) a w:=
 wpList_plain hgd fun _ hK=>P0 s x t ho ht hi hz hsize hby hzs hsz hs hrow hbw hbe hd hf hx hr h63 hbytes fun V' w6 h2 h3 h4=>hK _ _ (h V' w6 h2 h3 h4)
theorem Eh {ops:Array Oper} {o:Oper} {a:Act} {K:Act->World->Prop} {Q:Exit->Act->World->Prop} {E:Prop} (hgd:o.guard=none) (s x:Operand) (t:TypeId) {e:TypeId}
 (ho:o.op=.call {callee:=.builtin .append,args:= #[s,x],argTypes:= #[t,t]}) {i:TypeInfo} {z:Value} {sz bytes:Nat} (ht:P.underlying t=some (.slice e)) (hi:P.info? e=some i) (hz:i.zero=some z) (hsize:i.size=sz) (hby:i.bytes=bytes) (hzs:z.cells.size=sz) (hsz:0<sz)
 {b:Nat} {wr w:World} {l:List D} {V:Value} (hs:a.eval s=V) (hrow:Dg b e sz wr l V) (hbw:b<=wr.heap.size) (hbe:Below wr.heap.size wr w) {d:D} {cs:List Value} (hd:d.cells=sz) (hf:Br wr.heap.size w d cs)
 {B:Nat} {A:Option Addr} {c:Nat} (hx:a.eval x=.slice A 1 c) (hr:A7 w B sz A 1 cs) (h63:l.length+1<=maxLen) (hbytes:(l.length+1)*bytes<=140737488355328)
 (h: ∀V' w6,Dg b e sz w6 (l++ [d]) V'->w.grownBy w6 V.ownBlock->(V'.ownBlock=V.ownBlock\/V'.ownBlock=some w.heap.size)->K (a.put o.dst V') w6):
 if Region.wanted o (yielded ops a.tmps)=true then Oper.wp P o a w K Q else E:=by
 have hw:Region.wanted o (yielded ops a.tmps)=true:=by simp[Region.wanted,hgd]
 rw[if_pos hw];exact P0 s x t ho ht hi hz hsize hby hzs hsz hs hrow hbw hbe hd hf hx hr h63 hbytes h
end
def An (w:World) (g o:Nat):List Value->World
 | []=>w
 |v::r=>An (w.setCell ⟨g,o,none⟩ v) g (o+1) r
def Rt (cs:Array Value) (o:Nat):List Value->Array Value
 | []=>cs
 |v::r=>Rt (cs.setIfInBounds o v) (o+1) r
theorem Bb: ∀(vs:List Value) (w:World) (g o:Nat),(An w g o vs).heap.size=w.heap.size
 | [],_,_,_=>rfl
 |v::r,w,g,o=>by simp only[An];rw[Bb r];simp[World.setCell]
theorem Ar: ∀(vs:List Value) (w:World) (g o c:Nat),c≠g->(An w g o vs).heap[c]? =w.heap[c]?
 | [],_,_,_,_,_=>rfl
 |v::r,w,g,o,c,h=>by
  simp only[An];rw[Ar r _ _ _ _ h];simp only[World.setCell,Array.getElem?_modify];rw[if_neg (fun e=>h e.symm)]
theorem Mm: ∀(vs:List Value) {w:World} {g o:Nat} {cs:Array Value} {t:TypeId},w.heap[g]? =some (.cells cs t (0,0))->(An w g o vs).heap[g]? =some (.cells (Rt cs o vs) t (0,0))
 | [],_,_,_,_,_,h=>h
 |v::r,w,g,o,cs,t,h=>by
  simp only[An,Rt];exact Mm r (by simp[World.setCell,Array.getElem?_modify,h])
theorem Bq {B:Nat} {a:World}: ∀(vs:List Value) {w:World} {g o:Nat},Below B a w->B<=g->Below B a (An w g o vs)
 | [],_,_,_,h,_=>h
 |v::r,w,g,o,h,hg=>by
  simp only[An];exact Bq r (h.setCell hg _) hg
theorem Oo: ∀(vs:List Value) (cs:Array Value) (o:Nat),(Rt cs o vs).size=cs.size
 | [],_,_=>rfl
 |v::r,cs,o=>by simp only[Rt];rw[Oo r];simp
theorem Ru: ∀(vs:List Value) (cs:Array Value) (o i:Nat),o+vs.length<=cs.size->(Rt cs o vs)[i]? =if o<=i/\i<o+vs.length then vs[i - o]? else cs[i]?
 | [],cs,o,i,_=>by
   simp only[Rt,List.length_nil];rw[if_neg (by omega)]
 |v::r,cs,o,i,h=>by
  simp only[List.length_cons]at h;simp only[Rt];rw[Ru r _ _ _ (by simp;omega)];by_cases h1:o+1<=i/\i<o+1+r.length
  . rw[if_pos h1,if_pos ⟨by omega,by simp only[List.length_cons];omega⟩,show i - o=(i - (o+1))+1 from by omega,List.getElem?_cons_succ]
  . rw[if_neg h1];by_cases h2:i=o
    . subst h2;rw[if_pos ⟨Nat.le_refl _,by simp⟩];simp only[Nat.sub_self,List.getElem?_cons_zero];rw[Array.getElem?_setIfInBounds_self_of_lt (by omega)]
    . rw[if_neg (by simp only[List.length_cons];omega),Array.getElem?_setIfInBounds_ne (by omega)]
def D9 (b g:Nat) (t:TypeId) (s N:Nat) (wr:World) (l:List D):Prop:=
 b<=g/\l.length<=N/\(∀d ∈ l,d.cells=s)/\ ∃(cs:Array Value) (ns:List Value),wr.heap[g]? =some (.cells cs t (0,0))/\cs.size=N*s/\(∀(j:Nat) (u:Value),ns[j]? =some u->cs[j]? =some u)/\
  ∀w'':World,wr.heap.size<=w''.heap.size->(∀p:Addr,b<=p.block->p.block<wr.heap.size->p.block≠g->w''.cell? p=wr.cell? p)->Ag w'' wr.heap.size l ns
theorem D9.start {b g:Nat} {t:TypeId} {s N:Nat} {wr:World} {cs:Array Value} (hb:b<=g) (hg:wr.heap[g]? =some (.cells cs t (0,0))) (hs:cs.size=N*s):D9 b g t s N wr []:=
 ⟨hb,Nat.zero_le _,fun d hd=>(by cases hd),cs, [],hg,hs,fun j u h=>(by simp at h),fun _ _ _=>rfl⟩
theorem D9.lt {b g:Nat} {t:TypeId} {s N:Nat} {wr:World} {l:List D} (h:D9 b g t s N wr l):g<wr.heap.size:=by
 obtain⟨_,_,_,cs,ns,h4,_⟩:=h;exact(Array.getElem?_eq_some_iff.1 h4).1
theorem D9.cell {b g:Nat} {t:TypeId} {s N:Nat} {wr:World} {l:List D} (h:D9 b g t s N wr l):(∀j,j<N*s-> ∃u,wr.cell? ⟨g,j,none⟩=some u)/\ ∀j,wr.frozen? ⟨g,j,none⟩=false:=by
 obtain⟨_,_,_,cs,ns,h4,h5,_⟩:=h;refine⟨fun j hj=> ?_,fun j=> ?_⟩
 . exact⟨cs[j],by rw[cell_of_row wr g j cs t (0,0) h4];exact Array.getElem?_eq_getElem (by omega)⟩
 . simp[World.frozen?,h4]
theorem D9.keep {b g:Nat} {t:TypeId} {s N:Nat} {wr w':World} {l:List D} (h:D9 b g t s N wr l) (hs:wr.heap.size<=w'.heap.size) (hk: ∀i,b<=i->i<wr.heap.size->w'.heap[i]? =wr.heap[i]?):D9 b g t s N w' l:=by
 have hlt:=h.lt;obtain⟨h1,h2,h3,cs,ns,h4,h5,h6,h7⟩:=h;exact⟨h1,h2,h3,cs,ns,(hk g h1 hlt).trans h4,h5,h6,fun w'' k1 k2=>Ag.more (h7 w'' (by omega) (fun p p1 p2 p3=>(k2 p p1 (by omega) p3).trans (World.cell?_of_block (hk p.block p1 p2)))) hs⟩
theorem D9.below {b g:Nat} {t:TypeId} {s N:Nat} {wr w':World} {l:List D} (h:D9 b g t s N wr l) (hb:Below wr.heap.size wr w'):D9 b g t s N w' l:=h.keep hb.size fun i _ hi=>hb.block i hi
theorem D9.step {b g:Nat} {t:TypeId} {s N:Nat} {wr w4:World} {l:List D} {d:D} {cs':List Value} (h:D9 b g t s N wr l) (hl:l.length<N) (hd:d.cells=s) (hx:Br wr.heap.size w4 d cs') (h4:Below wr.heap.size wr w4):
 D9 b g t s N (An w4 g (l.length*s) cs') (l++ [d]):=by
 have hlt:=h.lt;have h':=h.below h4;obtain⟨h1,h2,h3,cs,ns,k4,h5,h6,h7⟩:=h';have hcl:cs'.length=s:=hx.now.len.1.trans hd;have hnl:ns.length=l.length*s:=by
  have hA:=h7 w4 (Nat.le_refl _) (fun _ _ _ _=>rfl);rw[hA.len.1,Fi h3]
 have hN:l.length*s+s<=N*s:=by
  have:=Nat.mul_le_mul_right s (show l.length+1<=N by omega);rw[Nat.add_mul,Nat.one_mul]at this;exact this
 have hsz:=h4.size;refine⟨h1,by rw[List.length_append,List.length_cons,List.length_nil];omega, ?_,Rt cs (l.length*s) cs',ns++cs',Mm cs' k4,by rw[Oo];exact h5, ?_, ?_⟩
 . intro x hx';rcases List.mem_append.1 hx' with hx'|hx'
   . exact h3 x hx'
   . simp only[List.mem_cons,List.not_mem_nil,or_false]at hx';rw[hx'];exact hd
 . intro j u hj;rw[Ru cs' cs (l.length*s) j (by omega)];by_cases hjn:j<ns.length
   . rw[List.getElem?_append_left hjn]at hj;rw[if_neg (by omega)];exact h6 j u hj
   . rw[List.getElem?_append_right (by omega)]at hj;have:=(List.getElem?_eq_some_iff.1 hj).1;rw[if_pos ⟨by omega,by omega⟩,<-hnl];exact hj
 . intro w'' k1 k2;rw[Bb]at k1 k2 ⊢;have hfar: ∀p:Addr,b<=p.block->p.block<w4.heap.size->p.block≠g->w''.cell? p=w4.cell? p:=fun p p1 p2 p3=>(k2 p p1 p2 p3).trans (World.cell?_of_block (Ar cs' w4 g _ _ p3));exact(h7 w'' k1 hfar).snoc (hx w'' k1 (fun p p1 p2=>hfar p (by omega) p2 (by omega)))
theorem D9.close {b g:Nat} {t:TypeId} {s:Nat} {wr:World} {l:List D} (h:D9 b g t s l.length wr l) (c:Nat):Br b wr (.row s l) [.slice (some ⟨g,0,none⟩) l.length c]:=by
 have hlt:=h.lt;obtain⟨h1,h2,h3,cs,ns,h4,h5,h6,h7⟩:=h;intro w'' k1 k2;refine⟨_,c,rfl,h3,ns,h7 w'' k1 (fun p p1 p2 _=>k2 p p1 p2),.inr ⟨g,0,rfl,hlt,fun j u hu=> ?_⟩⟩;rw[k2 _ h1 hlt,Nat.zero_add,cell_of_row wr g j cs t (0,0) h4];exact h6 j u hu
def Gu:ByteArray:=⟨#[]⟩
def Nn:Val:=.mk 1 false 0 Gu [] []
def Ir (b:Bool):Val:=.mk 2 b 0 Gu [] []
def Qc (n:Int):Val:=.mk 3 false n Gu [] []
def Ac8 (l:List UInt8):Val:=.mk 4 false 0 ⟨l.toArray⟩ [] []
def Sh (l:List Val):Val:=.mk 5 false 0 Gu l []
def Qf (o:List (ByteArray×Val)):Val:=.mk 6 false 0 Gu [] o
def Rd.map {α β:Type} (g:α->β):Rd α->Rd β
 | .ok a q=> .ok (g a) q
 | .bad e q=> .bad e q
def C2 (s:List UInt8) (p:Nat) (w:List UInt8) (v:Val):Rd Val:=if w.isPrefixOf (s.drop p)=true then .ok v (p+w.length)else .bad 4 p
def Ig (l:List (ByteArray×Val)):List (ByteArray×Val):=(B9 l []).getD []
def Gx (k:ByteArray) (l:List (ByteArray×Val)):Bool:=l.any fun m=>decide (m.1=k)
def E3 (c:UInt8):Bool:=Cx c||c==45||c==34||c==91||c==123||c==110||c==116||c==102
mutual
def Bi:Nat->List UInt8->Nat->Int->Rd Val
 |0,s,p,_=> .bad 4 (Al s p)
 |f+1,s,p,d=>match s[Al s p]? with
  |none=> .bad 4 (Al s p)
  |some c=>
   if E3 c=false then .bad 4 (Al s p)
   else if 64<d then .bad 5 (Al s p)
   else if c=91 then G4 f s (Al s p) d
   else if c=123 then Ls f s (Al s p) d
   else if c=34 then(Cv s (Al s p)).map Ac8
   else if c=110 then C2 s (Al s p) [110,117,108,108] Nn
   else if c=116 then C2 s (Al s p) [116,114,117,101] (Ir true)
   else if c=102 then C2 s (Al s p) [102,97,108,115,101] (Ir false)
   else(Du s (Al s p)).map Qc
def G4:Nat->List UInt8->Nat->Int->Rd Val
 |0,s,p,_=> .bad 4 (Al s (p+1))
 |f+1,s,p,d=>if s[Al s (p+1)]? =some 93 then .ok (Sh []) (Al s (p+1)+1)else Es f s (Al s (p+1)) d []
def Ls:Nat->List UInt8->Nat->Int->Rd Val
 |0,s,p,_=> .bad 4 (Al s (p+1))
 |f+1,s,p,d=>if s[Al s (p+1)]? =some 125 then .ok (Qf []) (Al s (p+1)+1)else Cu f s (Al s (p+1)) d []
def Es:Nat->List UInt8->Nat->Int->List Val->Rd Val
 |0,s,p,_,_=> .bad 4 (Al s p)
 |f+1,s,p,d,acc=>match Bi f s p (d+1)with
  | .bad e q=> .bad e q
  | .ok v q=>if s[Al s q]? =some 44 then Es f s (Al s q+1) d (acc++ [v])else if s[Al s q]? =some 93 then .ok (Sh (acc++ [v])) (Al s q+1)else .bad 4 (Al s q)
def Cu:Nat->List UInt8->Nat->Int->List (ByteArray×Val)->Rd Val
 |0,s,p,_,_=> .bad 4 (Al s p)
 |f+1,s,p,d,acc=>match Cv s (Al s p)with
  | .bad e q=> .bad e q
  | .ok k q=>if Gx ⟨k.toArray⟩ acc=true then .bad 8 (Al s p)
    else if s[Al s q]? =some 58 then Ez f s (Al s q+1) d acc ⟨k.toArray⟩
    else .bad 4 (Al s q)
def Ez:Nat->List UInt8->Nat->Int->List (ByteArray×Val)->ByteArray->Rd Val
 |0,s,p,_,_,_=> .bad 4 (Al s p)
 |f+1,s,p,d,acc,k=>match Bi f s p (d+1)with
  | .bad e q=> .bad e q
  | .ok v q=>if s[Al s q]? =some 44 then Cu f s (Al s q+1) d (acc++ [(k,v)])else if s[Al s q]? =some 125 then .ok (Qf (Ig (acc++ [(k,v)]))) (Al s q+1)else .bad 4 (Al s q)
end
def Ej (s:List UInt8):Rd Val:=match Bi (4*s.length+4) s 0 1 with
 | .bad e q=> .bad e q
 | .ok v q=>if Al s q<s.length then .bad 4 (Al s q)else .ok v (Al s q)
theorem Rd.within.from {α:Type} {p p' n:Nat} {r:Rd α} (h:r.within p' n) (hp:p<=p'):r.within p n:=by
 cases r with
 |ok a q=>exact⟨by have:=h.1;omega,h.2⟩
 |bad e q=>exact⟨by have:=h.1;omega,h.2⟩
theorem Rd.within.map {α β:Type} {g:α->β} {p n:Nat} {r:Rd α} (h:r.within p n):(r.map g).within p n:=by
 cases r<;>exact h
theorem I7 {s:List UInt8} {p:Nat} (h:p<s.length) {w:List UInt8} (hw:w≠ []) (v:Val):(C2 s p w v).within p s.length:=by
 unfold C2
 split
 . rename_i hp;have hp':=(List.isPrefixOf_iff_prefix.1 hp).length_le;rw[List.length_drop]at hp';have:0<w.length:=List.length_pos_iff.2 hw;exact⟨by omega,by omega⟩
 . exact⟨Nat.le_refl _,by omega,by decide,by decide⟩
theorem Dq {α:Type} {s:List UInt8} {p:Nat} (h:p<=s.length) (e:Int) (h1:1<=e) (h2:e<=18):(Rd.bad e (Al s p):Rd α).within p s.length:=⟨Bs s p,En h,h1,h2⟩
theorem Dn: ∀(f:Nat),(∀s p d,p<=s.length->(Bi f s p d).within p s.length)/\(∀s p d,p<s.length->(G4 f s p d).within p s.length)/\(∀s p d,p<s.length->(Ls f s p d).within p s.length)/\
 (∀s p d acc,p<=s.length->(Es f s p d acc).within p s.length)/\(∀s p d acc,p<=s.length->(Cu f s p d acc).within p s.length)/\(∀s p d acc k,p<=s.length->(Ez f s p d acc k).within p s.length):=by
 intro f
 induction f with
 |zero=>
  refine⟨fun s p d h=> ?_,fun s p d h=> ?_,fun s p d h=> ?_,fun s p d acc h=> ?_,fun s p d acc h=> ?_,fun s p d acc k h=> ?_⟩
  . unfold Bi;exact Dq h _ (by decide) (by decide)
  . unfold G4;exact(Dq (p:=p+1) h _ (by decide) (by decide)).from (by omega)
  . unfold Ls;exact(Dq (p:=p+1) h _ (by decide) (by decide)).from (by omega)
  . unfold Es;exact Dq h _ (by decide) (by decide)
  . unfold Cu;exact Dq h _ (by decide) (by decide)
  . unfold Ez;exact Dq h _ (by decide) (by decide)
 |succ f ih=>
  obtain⟨iv,il,io,ii,im,ik⟩:=ih;refine⟨fun s p d h=> ?_,fun s p d h=> ?_,fun s p d h=> ?_,fun s p d acc h=> ?_,fun s p d acc h=> ?_,fun s p d acc k h=> ?_⟩
  . unfold Bi;have hp:=En h;have hg:=Bs s p
    cases hc:s[Al s p]? with
    |none=>exact Dq h _ (by decide) (by decide)
    |some c=>
     have hl:=Ct hc;simp only
     split
     . exact Dq h _ (by decide) (by decide)
     split
     . exact Dq h _ (by decide) (by decide)
     split
     . exact(il s _ d hl).from hg
     split
     . exact(io s _ d hl).from hg
     split
     . exact((D8 hp).map).from hg
     split
     . exact(I7 hl (by simp) _).from hg
     split
     . exact(I7 hl (by simp) _).from hg
     split
     . exact(I7 hl (by simp) _).from hg
     . exact((J7 hl).map).from hg
  . unfold G4;have hp:=En (s:=s) (p:=p+1) h;have hg:=Bs s (p+1)
    split
    . rename_i hc;exact⟨by omega,by have:=Ct hc;omega⟩
    . exact(ii s _ d [] hp).from (by omega)
  . unfold Ls;have hp:=En (s:=s) (p:=p+1) h;have hg:=Bs s (p+1)
    split
    . rename_i hc;exact⟨by omega,by have:=Ct hc;omega⟩
    . exact(im s _ d [] hp).from (by omega)
  . unfold Es;have hv:=iv s p (d+1) h
    cases hr:Bi f s p (d+1)with
    |bad e q=>rw[hr]at hv;exact hv
    |ok v q=>
     rw[hr]at hv;obtain⟨h1,h2⟩:=hv;have hp:=En h2;have hg:=Bs s q;simp only
     split
     . rename_i hc;exact(ii s _ d _ (Ct hc)).from (by omega)
     split
     . rename_i hc;exact⟨by omega,Ct hc⟩
     . exact(Dq h2 _ (by decide) (by decide)).from (by omega)
  . unfold Cu;have hp0:=En h;have hg0:=Bs s p;have hv:=D8 hp0
    cases hr:Cv s (Al s p)with
    |bad e q=>rw[hr]at hv;exact hv.from hg0
    |ok k q=>
     rw[hr]at hv;obtain⟨h1,h2⟩:=hv;have hp:=En h2;have hg:=Bs s q;simp only
     split
     . exact Dq h _ (by decide) (by decide)
     split
     . rename_i hc;exact(ik s _ d _ _ (Ct hc)).from (by omega)
     . exact(Dq h2 _ (by decide) (by decide)).from (by omega)
  . unfold Ez;have hv:=iv s p (d+1) h
    cases hr:Bi f s p (d+1)with
    |bad e q=>rw[hr]at hv;exact hv
    |ok v q=>
     rw[hr]at hv;obtain⟨h1,h2⟩:=hv;have hp:=En h2;have hg:=Bs s q;simp only
     split
     . rename_i hc;exact(im s _ d _ (Ct hc)).from (by omega)
     split
     . rename_i hc;exact⟨by omega,Ct hc⟩
     . exact(Dq h2 _ (by decide) (by decide)).from (by omega)
def Co:List UInt8->Nat->Int->Option Int
 |_,0,r=>some r
 | [],_+1,_=>none
 |d::l,n+1,r=>if(d.toNat:Int)<128\/192<=(d.toNat:Int)then none else Co l n (64*r+d.toNat - 128)
def C1 (F:Option Int) (n:Nat) (least:Int):Int×Int:=
 match F with
 |none=>(0,0)
 |some r=>if r<least\/1114111<r\/(55296<=r/\r<57344)then(0,0)else(r,n)
def Bt (rest:List UInt8) (n:Nat) (r0 least:Int):Int×Int:=
 if rest.length+1<n then(0,0)else C1 (Co rest (n - 1) r0) n least
def Fg:List UInt8->Int×Int
 | []=>(0,0)
 |c::rest=>
  if(c.toNat:Int)<128 then(c.toNat,1)
  else if 192<=(c.toNat:Int)/\(c.toNat:Int)<224 then Bt rest 2 (c.toNat - 192) 128
  else if 224<=(c.toNat:Int)/\(c.toNat:Int)<240 then Bt rest 3 (c.toNat - 224) 2048
  else if 240<=(c.toNat:Int)/\(c.toNat:Int)<248 then Bt rest 4 (c.toNat - 240) 65536
  else(0,0)
theorem La (s:ByteArray) (a:Nat) (h:a<s.size):s.data.toList.drop a=s[a]::s.data.toList.drop (a+1):=by
 rw[List.drop_eq_getElem_cons (by rw[<-Lib.size_eq];exact h)];rfl
theorem Bo (d:UInt8) (l:List UInt8) (n:Nat) (r:Int):Co (d::l) (n+1) r=if(d.toNat:Int)<128\/192<=(d.toNat:Int)then none else Co l n (64*r+d.toNat - 128):=rfl
theorem Fq (c:UInt8) (rest:List UInt8):Fg (c::rest)=
 (if(c.toNat:Int)<128 then((c.toNat:Int),(1:Int))
 else if 192<=(c.toNat:Int)/\(c.toNat:Int)<224 then Bt rest 2 (c.toNat - 192) 128
 else if 224<=(c.toNat:Int)/\(c.toNat:Int)<240 then Bt rest 3 (c.toNat - 224) 2048
 else if 240<=(c.toNat:Int)/\(c.toNat:Int)<248 then Bt rest 4 (c.toNat - 240) 65536
 else(0,0)):=rfl
set_option maxRecDepth 1000000 in
theorem Agv (s:ByteArray) (a:Nat) (w:World) (hs:s.size<=4611686018427387904) (h:a<s.size) (x:UInt8) (hx:s[a]=x) (h1:192<=(x.toNat:Int)) (h2:(x.toNat:Int)<224) (h3:a+2<=s.size):
 Calls Tryz.prog 182 #[.string s,.int .i64 a] w fun e w'=>e=.returned (.tuple #[.int .i64 (Bt (s.data.toList.drop (a+1)) 2 (x.toNat - 192) 128).1,.int .i64 (Bt (s.data.toList.drop (a+1)) 2 (x.toNat - 192) 128).2])/\w=w':=by
 have hlen: ¬(s.data.toList.drop (a+1)).length+1<2:=by
  rw[List.length_drop,<-Lib.size_eq];omega
 obtain⟨F,hF⟩: ∃F,Co (s.data.toList.drop (a+1)) (2 - 1) (x.toNat - 192)=F:=⟨_,rfl⟩;have hat:Bt (s.data.toList.drop (a+1)) 2 (x.toNat - 192) 128=C1 F 2 128:=by
  unfold Bt C1;rw[if_neg hlen,hF]
 rw[hat];have H0:=qz hF;clear hat hlen hF;have e1:decide (s.size<=a)=false:=by simp;omega
 have e2:decide ((x.toNat:Int)<128)=false:=by simp;omega
 have e3:(a:Int)+2<=(s.size:Int):=by omega
 go_enter Tryz.func182,Tryz.ntmps182;go_wp2
 go_loop [8,10] (fun r i=> ∃k:Nat,∃rr:Int,1<=k/\k<=2/\i=.int .i64 k/\r=.int .i64 rr/\0<=rr/\(k<=1->rr<=31)/\(k<=2->rr<=2047)/\(k<=3->rr<=131071)/\rr<=8388607/\Hid (Co (s.data.toList.drop (a+k)) (2 - k) rr=F)) (fun _ i=>2 - (intOf i).toNat)
 case atStart=>exact⟨1,(x.toNat:Int) - 192,by omega,by omega,rfl,rfl,by omega,by omega,by omega,by omega,by omega,H0⟩
 case round=>
  obtain⟨k,rr,hk1,hk2,rfl,rfl,hr0,hr1,hr2,hr3,hr4,hf⟩:=hrel;clear H0;by_cases hlt:k<2
  . obtain rfl:k=1:=by omega
    have hak:a+1<s.size:=by omega
    obtain⟨y,hy⟩: ∃y,s[a+1]=y:=⟨_,rfl⟩;have hyl:(y.toNat:Int)<256:=by have:=y.toNat_lt;omega
    have hf':=hf.out;rw[La s (a+1) hak,hy,show 2 - 1=(2 - (1+1))+1 from by omega]at hf';rw[Bo]at hf';by_cases hc:(y.toNat:Int)<128\/192<=(y.toNat:Int)
    . rw[if_pos hc]at hf';subst hf';clear hf;rcases hc with hc|hc
      all_goals
       go_wp2
       all_goals go_ret2
       all_goals exact⟨rfl,rfl⟩
    . rw[if_neg hc]at hf';have Hf:=qz hf';clear hf hf';have hc1:128<=(y.toNat:Int):=by omega
      have hc2:(y.toNat:Int)<192:=by omega
      clear hc;go_wp2
      go_round
      case rel=>exact⟨1+1,64*rr+y.toNat - 128,by omega,by omega,by go_num,rfl,by omega,by omega,by omega,by omega,by omega,Hf⟩
      case measure=>first|(simp[intOf];done)|(simp[intOf];omega)
  . obtain rfl:k=2:=by omega
    have hf':=hf.out;rw[Nat.sub_self]at hf';rw[show Co (s.data.toList.drop (a+2)) 0 rr=some rr from by cases (s.data.toList.drop (a+2))<;>rfl]at hf';subst hf';clear hf;by_cases hbad:rr<128\/1114111<rr\/(55296<=rr/\rr<57344)
    . have hv:C1 (some rr) 2 128=(0,0):=by unfold C1;simp only;rw[if_pos hbad]
      have Hv:=qz hv;clear hv;have hb:(rr<128)\/(¬rr<128/\1114111<rr)\/(¬rr<128/\ ¬1114111<rr/\55296<=rr/\rr<57344):=by omega
      clear hbad;rcases hb with b1|⟨b1,b2⟩|⟨b1,b2,b3,b4⟩
      all_goals
       go_wp2
       all_goals go_ret2
       all_goals exact⟨by rw[Hv.out];rfl,rfl⟩
    . have hv:C1 (some rr) 2 128=(rr,2):=by unfold C1;simp only;rw[if_neg hbad];rfl
      have Hv:=qz hv;clear hv;have hb:(¬rr<128/\ ¬1114111<rr/\rr<55296)\/(¬rr<128/\ ¬1114111<rr/\55296<=rr/\ ¬rr<57344):=by omega
      clear hbad;rcases hb with⟨b1,b2,b3⟩|⟨b1,b2,b3,b4⟩
      all_goals
       go_wp2
       all_goals go_ret2
       all_goals exact⟨by rw[Hv.out];rfl,rfl⟩
set_option maxRecDepth 1000000 in
theorem Adj (s:ByteArray) (a:Nat) (w:World) (hs:s.size<=4611686018427387904) (h:a<s.size) (x:UInt8) (hx:s[a]=x) (h1:224<=(x.toNat:Int)) (h2:(x.toNat:Int)<240) (h3:a+3<=s.size):
 Calls Tryz.prog 182 #[.string s,.int .i64 a] w fun e w'=>e=.returned (.tuple #[.int .i64 (Bt (s.data.toList.drop (a+1)) 3 (x.toNat - 224) 2048).1,.int .i64 (Bt (s.data.toList.drop (a+1)) 3 (x.toNat - 224) 2048).2])/\w=w':=by
 have hlen: ¬(s.data.toList.drop (a+1)).length+1<3:=by
  rw[List.length_drop,<-Lib.size_eq];omega
 obtain⟨F,hF⟩: ∃F,Co (s.data.toList.drop (a+1)) (3 - 1) (x.toNat - 224)=F:=⟨_,rfl⟩;have hat:Bt (s.data.toList.drop (a+1)) 3 (x.toNat - 224) 2048=C1 F 3 2048:=by
  unfold Bt C1;rw[if_neg hlen,hF]
 rw[hat];have H0:=qz hF;clear hat hlen hF;have e1:decide (s.size<=a)=false:=by simp;omega
 have e2:decide ((x.toNat:Int)<128)=false:=by simp;omega
 have e3:(a:Int)+3<=(s.size:Int):=by omega
 go_enter Tryz.func182,Tryz.ntmps182;go_wp2
 go_loop [8,10] (fun r i=> ∃k:Nat,∃rr:Int,1<=k/\k<=3/\i=.int .i64 k/\r=.int .i64 rr/\0<=rr/\(k<=1->rr<=31)/\(k<=2->rr<=2047)/\(k<=3->rr<=131071)/\rr<=8388607/\Hid (Co (s.data.toList.drop (a+k)) (3 - k) rr=F)) (fun _ i=>3 - (intOf i).toNat)
 case atStart=>exact⟨1,(x.toNat:Int) - 224,by omega,by omega,rfl,rfl,by omega,by omega,by omega,by omega,by omega,H0⟩
 case round=>
  obtain⟨k,rr,hk1,hk2,rfl,rfl,hr0,hr1,hr2,hr3,hr4,hf⟩:=hrel;clear H0;by_cases hlt:k<3
  . have hak:a+k<s.size:=by omega
    obtain⟨y,hy⟩: ∃y,s[a+k]=y:=⟨_,rfl⟩;have hyl:(y.toNat:Int)<256:=by have:=y.toNat_lt;omega
    have hf':=hf.out;rw[La s (a+k) hak,hy,show 3 - k=(3 - (k+1))+1 from by omega]at hf';rw[Bo]at hf';by_cases hc:(y.toNat:Int)<128\/192<=(y.toNat:Int)
    . rw[if_pos hc]at hf';subst hf';clear hf;rcases hc with hc|hc
      all_goals
       go_wp2
       all_goals go_ret2
       all_goals exact⟨rfl,rfl⟩
    . rw[if_neg hc]at hf';have Hf:=qz hf';clear hf hf';have hc1:128<=(y.toNat:Int):=by omega
      have hc2:(y.toNat:Int)<192:=by omega
      clear hc;go_wp2
      go_round
      case rel=>exact⟨k+1,64*rr+y.toNat - 128,by omega,by omega,by go_num,rfl,by omega,by omega,by omega,by omega,by omega,Hf⟩
      case measure=>first|(simp[intOf];done)|(simp[intOf];omega)
  . obtain rfl:k=3:=by omega
    have hf':=hf.out;rw[Nat.sub_self]at hf';rw[show Co (s.data.toList.drop (a+3)) 0 rr=some rr from by cases (s.data.toList.drop (a+3))<;>rfl]at hf';subst hf';clear hf;by_cases hbad:rr<2048\/1114111<rr\/(55296<=rr/\rr<57344)
    . have hv:C1 (some rr) 3 2048=(0,0):=by unfold C1;simp only;rw[if_pos hbad]
      have Hv:=qz hv;clear hv;have hb:(rr<2048)\/(¬rr<2048/\1114111<rr)\/(¬rr<2048/\ ¬1114111<rr/\55296<=rr/\rr<57344):=by omega
      clear hbad;rcases hb with b1|⟨b1,b2⟩|⟨b1,b2,b3,b4⟩
      all_goals
       go_wp2
       all_goals go_ret2
       all_goals exact⟨by rw[Hv.out];rfl,rfl⟩
    . have hv:C1 (some rr) 3 2048=(rr,3):=by unfold C1;simp only;rw[if_neg hbad];rfl
      have Hv:=qz hv;clear hv;have hb:(¬rr<2048/\ ¬1114111<rr/\rr<55296)\/(¬rr<2048/\ ¬1114111<rr/\55296<=rr/\ ¬rr<57344):=by omega
      clear hbad;rcases hb with⟨b1,b2,b3⟩|⟨b1,b2,b3,b4⟩
      all_goals
       go_wp2
       all_goals go_ret2
       all_goals exact⟨by rw[Hv.out];rfl,rfl⟩
set_option maxRecDepth 1000000 in
theorem Afk (s:ByteArray) (a:Nat) (w:World) (hs:s.size<=4611686018427387904) (h:a<s.size) (x:UInt8) (hx:s[a]=x) (h1:240<=(x.toNat:Int)) (h2:(x.toNat:Int)<248) (h3:a+4<=s.size):
 Calls Tryz.prog 182 #[.string s,.int .i64 a] w fun e w'=>e=.returned (.tuple #[.int .i64 (Bt (s.data.toList.drop (a+1)) 4 (x.toNat - 240) 65536).1,.int .i64 (Bt (s.data.toList.drop (a+1)) 4 (x.toNat - 240) 65536).2])/\w=w':=by
 have hlen: ¬(s.data.toList.drop (a+1)).length+1<4:=by
  rw[List.length_drop,<-Lib.size_eq];omega
 obtain⟨F,hF⟩: ∃F,Co (s.data.toList.drop (a+1)) (4 - 1) (x.toNat - 240)=F:=⟨_,rfl⟩;have hat:Bt (s.data.toList.drop (a+1)) 4 (x.toNat - 240) 65536=C1 F 4 65536:=by
  unfold Bt C1;rw[if_neg hlen,hF]
 rw[hat];have H0:=qz hF;clear hat hlen hF;have e1:decide (s.size<=a)=false:=by simp;omega
 have e2:decide ((x.toNat:Int)<128)=false:=by simp;omega
 have e3:(a:Int)+4<=(s.size:Int):=by omega
 go_enter Tryz.func182,Tryz.ntmps182;go_wp2
 go_loop [8,10] (fun r i=> ∃k:Nat,∃rr:Int,1<=k/\k<=4/\i=.int .i64 k/\r=.int .i64 rr/\0<=rr/\(k<=1->rr<=31)/\(k<=2->rr<=2047)/\(k<=3->rr<=131071)/\rr<=8388607/\Hid (Co (s.data.toList.drop (a+k)) (4 - k) rr=F)) (fun _ i=>4 - (intOf i).toNat)
 case atStart=>exact⟨1,(x.toNat:Int) - 240,by omega,by omega,rfl,rfl,by omega,by omega,by omega,by omega,by omega,H0⟩
 case round=>
  obtain⟨k,rr,hk1,hk2,rfl,rfl,hr0,hr1,hr2,hr3,hr4,hf⟩:=hrel;clear H0;by_cases hlt:k<4
  . have hak:a+k<s.size:=by omega
    obtain⟨y,hy⟩: ∃y,s[a+k]=y:=⟨_,rfl⟩;have hyl:(y.toNat:Int)<256:=by have:=y.toNat_lt;omega
    have hf':=hf.out;rw[La s (a+k) hak,hy,show 4 - k=(4 - (k+1))+1 from by omega]at hf';rw[Bo]at hf';by_cases hc:(y.toNat:Int)<128\/192<=(y.toNat:Int)
    . rw[if_pos hc]at hf';subst hf';clear hf;rcases hc with hc|hc
      all_goals
       go_wp2
       all_goals go_ret2
       all_goals exact⟨rfl,rfl⟩
    . rw[if_neg hc]at hf';have Hf:=qz hf';clear hf hf';have hc1:128<=(y.toNat:Int):=by omega
      have hc2:(y.toNat:Int)<192:=by omega
      clear hc;go_wp2
      go_round
      case rel=>exact⟨k+1,64*rr+y.toNat - 128,by omega,by omega,by go_num,rfl,by omega,by omega,by omega,by omega,by omega,Hf⟩
      case measure=>first|(simp[intOf];done)|(simp[intOf];omega)
  . obtain rfl:k=4:=by omega
    have hf':=hf.out;rw[Nat.sub_self]at hf';rw[show Co (s.data.toList.drop (a+4)) 0 rr=some rr from by cases (s.data.toList.drop (a+4))<;>rfl]at hf';subst hf';clear hf;by_cases hbad:rr<65536\/1114111<rr\/(55296<=rr/\rr<57344)
    . have hv:C1 (some rr) 4 65536=(0,0):=by unfold C1;simp only;rw[if_pos hbad]
      have Hv:=qz hv;clear hv;have hb:(rr<65536)\/(¬rr<65536/\1114111<rr)\/(¬rr<65536/\ ¬1114111<rr/\55296<=rr/\rr<57344):=by omega
      clear hbad;rcases hb with b1|⟨b1,b2⟩|⟨b1,b2,b3,b4⟩
      all_goals
       go_wp2
       all_goals go_ret2
       all_goals exact⟨by rw[Hv.out];rfl,rfl⟩
    . have hv:C1 (some rr) 4 65536=(rr,4):=by unfold C1;simp only;rw[if_neg hbad];rfl
      have Hv:=qz hv;clear hv;have hb:(¬rr<65536/\ ¬1114111<rr/\rr<55296)\/(¬rr<65536/\ ¬1114111<rr/\55296<=rr/\ ¬rr<57344):=by omega
      clear hbad;rcases hb with⟨b1,b2,b3⟩|⟨b1,b2,b3,b4⟩
      all_goals
       go_wp2
       all_goals go_ret2
       all_goals exact⟨by rw[Hv.out];rfl,rfl⟩
set_option maxRecDepth 1000000 in
theorem Afl (s:ByteArray) (a:Nat) (w:World) (_hs:s.size<=4611686018427387904) (_ha:a<=4611686018427387904) (h:s.size<=a):
 Calls Tryz.prog 182 #[.string s,.int .i64 a] w fun e w'=>e=.returned (.tuple #[.int .i64 0,.int .i64 0])/\w=w':=by
 have e1:(s.size:Int)<=a:=by omega
 have e2:decide (s.size<=a)=true:=by simpa using h
 go_enter Tryz.func182,Tryz.ntmps182;go_wp2
 all_goals go_ret2
 all_goals exact⟨rfl,rfl⟩
set_option maxRecDepth 1000000 in
theorem Agu (s:ByteArray) (a:Nat) (w:World) (_hs:s.size<=4611686018427387904) (h:a<s.size) (x:UInt8) (hx:s[a]=x) (h1:(x.toNat:Int)<128):
 Calls Tryz.prog 182 #[.string s,.int .i64 a] w fun e w'=>e=.returned (.tuple #[.int .i64 x.toNat,.int .i64 1])/\w=w':=by
 go_enter Tryz.func182,Tryz.ntmps182;go_wp2
 all_goals go_ret2
 all_goals exact⟨rfl,rfl⟩
set_option maxRecDepth 1000000 in
theorem T6 (s:ByteArray) (a:Nat) (w:World) (hs:s.size<=4611686018427387904) (h:a<s.size) (x:UInt8) (hx:s[a]=x) (h0:128<=(x.toNat:Int))
 (h1:(x.toNat:Int)<192\/248<=(x.toNat:Int)\/(192<=(x.toNat:Int)/\(x.toNat:Int)<224/\s.size<a+2)\/(224<=(x.toNat:Int)/\(x.toNat:Int)<240/\s.size<a+3)\/(240<=(x.toNat:Int)/\(x.toNat:Int)<248/\s.size<a+4)):
 Calls Tryz.prog 182 #[.string s,.int .i64 a] w fun e w'=>e=.returned (.tuple #[.int .i64 0,.int .i64 0])/\w=w':=by
 have hxl:(x.toNat:Int)<256:=by have:=x.toNat_lt;omega
 rcases h1 with h1|h1|⟨h1,h2,h3⟩|⟨h1,h2,h3⟩|⟨h1,h2,h3⟩
 . go_enter Tryz.func182,Tryz.ntmps182;go_wp2
   all_goals go_ret2
   all_goals exact⟨rfl,rfl⟩
 . have g1:192<=(x.toNat:Int):=by omega
   have g2: ¬((x.toNat:Int)<224):=by omega
   have g3:224<=(x.toNat:Int):=by omega
   have g4: ¬((x.toNat:Int)<240):=by omega
   have g5:240<=(x.toNat:Int):=by omega
   have g6: ¬((x.toNat:Int)<248):=by omega
   go_enter Tryz.func182,Tryz.ntmps182;go_wp2
   all_goals go_ret2
   all_goals exact⟨rfl,rfl⟩
 . have h4:(s.size:Int)<(a:Int)+2:=by omega
   go_enter Tryz.func182,Tryz.ntmps182;go_wp2
   all_goals go_ret2
   all_goals exact⟨rfl,rfl⟩
 . have h4:(s.size:Int)<(a:Int)+3:=by omega
   go_enter Tryz.func182,Tryz.ntmps182;go_wp2
   all_goals go_ret2
   all_goals exact⟨rfl,rfl⟩
 . have h4:(s.size:Int)<(a:Int)+4:=by omega
   go_enter Tryz.func182,Tryz.ntmps182;go_wp2
   all_goals go_ret2
   all_goals exact⟨rfl,rfl⟩
theorem Qt (s:ByteArray) (a:Nat) (w:World) (hs:s.size<=4611686018427387904) (ha:a<=4611686018427387904):
 Calls Tryz.prog 182 #[.string s,.int .i64 a] w fun e w'=>e=.returned (.tuple #[.int .i64 (Fg (s.data.toList.drop a)).1,.int .i64 (Fg (s.data.toList.drop a)).2])/\w=w':=by
 by_cases h:a<s.size
 . rw[La s a h];obtain⟨x,hx⟩: ∃x,s[a]=x:=⟨_,rfl⟩;rw[hx];have hl:(s.data.toList.drop (a+1)).length=s.size - (a+1):=by rw[List.length_drop,<-Lib.size_eq]
   have hxl:=x.toNat_lt;rw[Fq];by_cases h1:(x.toNat:Int)<128
   . rw[if_pos h1];exact Agu s a w hs h x hx h1
   rw[if_neg h1];by_cases h2:192<=(x.toNat:Int)/\(x.toNat:Int)<224
   . rw[if_pos h2];by_cases h3:a+2<=s.size
     . exact Agv s a w hs h x hx h2.1 h2.2 h3
     . unfold Bt;rw[if_pos (by omega)];exact T6 s a w hs h x hx (by omega) (by omega)
   rw[if_neg h2];by_cases h2:224<=(x.toNat:Int)/\(x.toNat:Int)<240
   . rw[if_pos h2];by_cases h3:a+3<=s.size
     . exact Adj s a w hs h x hx h2.1 h2.2 h3
     . unfold Bt;rw[if_pos (by omega)];exact T6 s a w hs h x hx (by omega) (by omega)
   rw[if_neg h2];by_cases h2:240<=(x.toNat:Int)/\(x.toNat:Int)<248
   . rw[if_pos h2];by_cases h3:a+4<=s.size
     . exact Afk s a w hs h x hx h2.1 h2.2 h3
     . unfold Bt;rw[if_pos (by omega)];exact T6 s a w hs h x hx (by omega) (by omega)
   rw[if_neg h2];exact T6 s a w hs h x hx (by omega) (by omega)
 . rw[List.drop_eq_nil_of_le (by rw[<-Lib.size_eq];omega)];exact Afl s a w hs ha (by omega)
def Aa1 {α:Type} (P:Program) (gf:Nat) (lb:Array Value) (encs:α->Array Value) (xs:List α) (N:World->Prop):Prop:=
 ∀(n l:Nat) (J:List α->World->Prop) (Jx:World->Prop) (W:World),(∀s A B,J s A->Below A.heap.size A B->J s B)->(∀A B,Jx A->Below A.heap.size A B->Jx B)->(∀s A,J s A->N A)->
  (∀pre x rest A,xs=pre++x::rest->J pre A->YieldAt Fence.wide n P l (encs x) A fun e B=>(e=.returned (.bool true)/\J (pre++ [x]) B)\/(e=.returned (.bool false)/\Jx B))->
  J [] W->CallsIn Fence.wide (n+1) P gf (#[.func (.yield l) #[] #[]]++lb) W fun e B=>(∃v,e=.returned v)/\(J xs B\/Jx B)
def Le (I Ix:World->Prop) (d:Nat) (W:World):Exit->Act->World->Prop
 | .normal,_,W'=>W'.heap[d]? =W.heap[d]? /\W'.heap[d+1]? =W.heap[d+1]? /\I W'
 | .ret,_,W'=>W'.heap[d]? =W.heap[d]? /\W'.heap[d+1]? =W.heap[d+1]? /\Ix W'
 |_,_,_=>False
theorem S4 {α:Type} {P:Program} {g:Operand} {ps:Array Tmp} {assign body:Code} {Q:Exit->Act->World->Prop} {a:Act} {w:World} {n:Nat}
 {gf:Nat} {lb:Array Value} (hg:a.eval g=.func (.func gf) #[] lb) (eg: ∀args w,(callFunc gf args).run P w=.ok (.enter gf args) w)
 {encs:α->Array Value} {xs:List α} {N:World->Prop} (hit:Aa1 P gf lb encs xs N) (hps: ∀x,(encs x).size=ps.size)
 (I:List α->World->Prop) (Ix:World->Prop) (hIn: ∀s A B,I s A->Below A.heap.size A B->I s B) (hXn: ∀A B,Ix A->Below A.heap.size A B->Ix B)
 (hXp: ∀A k o o',Ix A->A.heap[k]? =some o->o.isCells=false->(k=w.heap.size\/k=w.heap.size+1)->Ix (A.putObj k o'))
 (hIp: ∀s A k o o',I s A->A.heap[k]? =some o->o.isCells=false->(k=w.heap.size\/k=w.heap.size+1)->I s (A.putObj k o'))
 (hIb: ∀s A,I s A->N A) (h0:I [] w) (a₁:α->Act)
 (hassign: ∀(l:Nat) (x:α) (W:World) (K:Act->World->Prop),K (a₁ x) W->
   assign.wpIn (Fence.wide.inRound l) n P (Exit.then K (fun _ _ _=>False)) {tmps:=(ps.zip (encs x)).foldl (fun t (p,v)=>t.setIfInBounds p v) a.tmps,defers:= []} W)
 (hbody: ∀(l:Nat) (pre:List α) (x:α) (rest:List α) (W:World),xs=pre++x::rest->I pre W->(∃ds,W.heap[w.heap.size]? =some (.deferred ds))->(∃r,W.heap[w.heap.size+1]? =some (.loop r))->
   body.wpIn (Fence.wide.inRound l) n P (Le (I (pre++ [x])) Ix w.heap.size W) (a₁ x) W)
 (hstop: ∀(W:World),Ix W->W.heap[w.heap.size]? =some (.deferred (some []))->Code.ret.wpIn Fence.wide (n+1+1) P Q {a with defers:={target:=.collected w.heap.size,args:= #[]}::a.defers} W)
 (hdone: ∀(W:World),I xs W->W.heap[w.heap.size]? =some (.deferred (some []))->Q .normal {a with defers:={target:=.collected w.heap.size,args:= #[]}::a.defers} W):
 (Code.rangeFunc g ps assign body).wpIn Fence.wide (n+1+1) P Q a w:=by
 refine wpIn_rangeFunc ?_;intro fn hfn;have hro:Fence.wide.round=none:=rfl;rw[hro];obtain⟨rec,hrec⟩: ∃rec:LoopState->Option Code->Loop,rec=fun st pe=>{state:=st,pending:=pe,fn,tmps:=a.tmps,params:=ps,assign,body,defers:=w.heap.size}:=⟨_,rfl⟩;obtain⟨W1,hW1⟩: ∃W1,(w.alloc (.deferred (some []))).alloc (.loop (rec .ready none))=W1:=⟨_,rfl⟩;have hL1:W1.heap[w.heap.size+1]? =some (.loop (rec .ready none)):=by
  rw[<-hW1];have:=World.alloc_heap_new (w.alloc (.deferred (some []))) (.loop (rec .ready none));rwa [World.size_alloc]at this
 have hK1:W1.heap[w.heap.size]? =some (.deferred (some [])):=by
  rw[<-hW1];exact(Below.heap_alloc _ _ _ (by simp)).trans (World.alloc_heap_new w _)
 have hI1:I [] W1:=by
  rw[<-hW1];exact hIn _ _ _ h0 (((Below.refl _ w).alloc (Nat.le_refl _) _).alloc (by simp) _)
 refine⟨w.heap.size+1, [{target:=.collected w.heap.size,args:= #[]}],W1,{target:=.fn (.func gf) lb,args:= #[.func (.yield (w.heap.size+1)) #[] #[]]},W1,gf,
  #[.func (.yield (w.heap.size+1)) #[] #[]]++lb,W1, ?_, ?_, ?_, ?_,fun h=>by simp[Fence.wide]at h, ?_⟩
 . rw[<-hW1,hrec];exact run_enterLoop_outer _ _ _ _ _
 . simp only[resolve,hg];simp[go_sem]
 . intro f' _;trivial
 . simp[invoke,go_sem,eg]
 . refine(hit n (w.heap.size+1)
    (fun pre W=>I pre W/\W.heap[w.heap.size+1]? =some (.loop (rec .ready none))/\W.heap[w.heap.size]? =some (.deferred (some [])))
    (fun W=>Ix W/\W.heap[w.heap.size+1]? =some (.loop (rec .done (some .ret)))/\W.heap[w.heap.size]? =some (.deferred (some [])))
    W1 (fun s A B hs hb=>⟨hIn s A B hs.1 hb,(hb.block _ (Array.getElem?_eq_some_iff.1 hs.2.1).1).trans hs.2.1,(hb.block _ (Array.getElem?_eq_some_iff.1 hs.2.2).1).trans hs.2.2⟩)
    (fun A B hs hb=>⟨hXn A B hs.1 hb,(hb.block _ (Array.getElem?_eq_some_iff.1 hs.2.1).1).trans hs.2.1,(hb.block _ (Array.getElem?_eq_some_iff.1 hs.2.2).1).trans hs.2.2⟩)
    (fun s A hs=>hIb s A hs.1) ?_ ⟨hI1,hL1,hK1⟩).mono ?_
   ·
    rintro pre x rest W hx ⟨hi,hl,hk⟩;have hlt:w.heap.size+1<W.heap.size:=(Array.getElem?_eq_some_iff.1 hl).1;have hy:=run_yield (P:=P) (args:=encs x) hl (by rw[hrec];exact hps x);rw[hrec]at hy;refine⟨fn,_,assign,body,hy,roundIn_of_wpIn trivial (hassign _ x W _ ⟨_,run_beginRound hl (by rw[hrec]), ?_⟩)⟩;have hl2:(W.putObj (w.heap.size+1) (.loop {rec .ready none with state:=.busy})).heap[w.heap.size+1]? =some (.loop {rec .ready none with state:=.busy}):=World.putObj_heap_same hlt;have hk2:(W.putObj (w.heap.size+1) (.loop {rec .ready none with state:=.busy})).heap[w.heap.size]? =some (.deferred (some [])):=(World.putObj_heap_other (by omega)).trans hk;refine wpIn_mono (hbody _ pre x rest _ hx (hIp _ _ _ _ _ hi hl rfl (.inr rfl)) ⟨_,hk2⟩ ⟨_,hl2⟩) ?_;rintro e a3 W3 hp
    cases e with
    |normal=>
     obtain⟨h1,h2,hi3⟩:=hp;have hl3:=h2.trans hl2;have hk3:=h1.trans hk2;have hr:=run_endRound (P:=P) none hl3;rw[hrec]at hr;refine⟨_,_,hr,.inl ⟨rfl,hIp _ _ _ _ _ hi3 hl3 rfl (.inr rfl), ?_, ?_⟩⟩
     . rw[World.putObj_heap_same (Array.getElem?_eq_some_iff.1 hl3).1,hrec];rfl
     . exact(World.putObj_heap_other (by omega)).trans hk3
    |ret=>
     obtain⟨h1,h2,hi3⟩:=hp;have hl3:=h2.trans hl2;have hk3:=h1.trans hk2;have hr:=run_endRound (P:=P) (some .ret) hl3;rw[hrec]at hr;refine⟨_,_,hr,.inr ⟨rfl,hXp _ _ _ _ hi3 hl3 rfl (.inr rfl), ?_, ?_⟩⟩
     . rw[World.putObj_heap_same (Array.getElem?_eq_some_iff.1 hl3).1,hrec];rfl
     . exact(World.putObj_heap_other (by omega)).trans hk3
    |exit id=>exact hp.elim
    |goto t=>exact hp.elim
    |panic ch=>exact hp.elim
    |outgrown=>exact hp.elim
   ·
    rintro e W2 ⟨⟨v,rfl⟩,⟨hi,hl,hk⟩|⟨hi,hl,hk⟩⟩
    . exact⟨none,_,by have:=run_endLoop (P:=P) hl (by rw[hrec];simp);rw[hrec]at this;exact this,hdone _ (hIp _ _ _ _ _ hi hl rfl (.inr rfl)) ((World.putObj_heap_other (by omega)).trans hk)⟩
    . exact⟨some .ret,_,by have:=run_endLoop (P:=P) hl (by rw[hrec];simp);rw[hrec]at this;exact this,hstop _ (hXp _ _ _ _ hi hl rfl (.inr rfl)) ((World.putObj_heap_other (by omega)).trans hk)⟩
theorem Ah.cutL {w:World} {B s n c:Nat} {l:List D} {a:Option Addr} (h:Ah w B (.row s l) [.slice a n c]) {i:Nat} (hi:i<=l.length) (c':Nat):Ah w B (.row s (l.take i)) [.slice a i c']:=by
 obtain⟨a',c2,e,hs,ns,h1,h2⟩:=h;simp only[List.cons.injEq,Value.slice.injEq,and_true]at e;obtain⟨rfl,_,rfl⟩:=e;refine⟨a,c',by rw[List.length_take,Nat.min_eq_left hi],fun d hd=>hs d (List.mem_of_mem_take hd),ns.take (i*s),(h1.split i hs).1, ?_⟩;rcases h2 with h2|⟨g,off,ea,hg,hc⟩
 . exact .inl (by rw[h2];simp)
 . refine .inr ⟨g,off,ea,hg,fun j u hj=> ?_⟩;rw[List.getElem?_take]at hj;by_cases hlt:j<i*s
   . rw[if_pos hlt]at hj;exact hc j u hj
   . rw[if_neg hlt]at hj;cases hj
theorem Ah.cutR {w:World} {B s n c g off:Nat} {l:List D} (h:Ah w B (.row s l) [.slice (some ⟨g,off,none⟩) n c]) {i m:Nat} (hm:i+m=l.length) (c':Nat):Ah w B (.row s (l.drop i)) [.slice (some ⟨g,off+i*s,none⟩) m c']:=by
 obtain⟨a',c2,e,hs,ns,h1,h2⟩:=h;simp only[List.cons.injEq,Value.slice.injEq,and_true]at e;obtain⟨rfl,_,rfl⟩:=e;refine⟨_,c',by rw[List.length_drop,show l.length - i=m from by omega],fun d hd=>hs d (List.mem_of_mem_drop hd),ns.drop (i*s),(h1.split i hs).2, ?_⟩;rcases h2 with h2|⟨g',off',ea,hg,hc⟩
 . exact .inl (by rw[h2];simp)
 . cases ea
   refine .inr ⟨g,off+i*s,rfl,hg,fun j u hj=> ?_⟩;rw[List.getElem?_drop]at hj;rw[Nat.add_assoc];exact hc _ u hj
theorem At.split {S:Nat->Prop} {w:World} {l:List D} {ns:List Value} {s:Nat} (h:At S w l ns) (hs: ∀d ∈ l,d.cells=s) (i:Nat):At S w (l.take i) (ns.take (i*s))/\At S w (l.drop i) (ns.drop (i*s)):=
 ⟨fun w'' k1 k2=>((h w'' k1 k2).split i hs).1,fun w'' k1 k2=>((h w'' k1 k2).split i hs).2⟩
theorem At.grow {S0:Nat->Prop} {w w':World} {V V':Value} {l:List D} {ns:List Value} (h:At (fun i=>S0 i/\V.ownBlock≠some i) w l ns) (hg:w.grownBy w' V.ownBlock) (ha:V'.ownBlock=V.ownBlock\/V'.ownBlock=some w.heap.size):At (fun i=>S0 i/\V'.ownBlock≠some i) w' l ns:=fun w'' k1 k2=>by
 refine Ag.more (h w'' (Nat.le_trans hg.size k1) fun p p1 p2=> ?_) hg.size;have hn:V'.ownBlock≠some p.block:=by
  rcases ha with e|e
  . rw[e];exact p1.2
  . rw[e];intro e4;have:=Option.some.inj e4;omega
 rw[k2 p ⟨p1.1,hn⟩ (Nat.lt_of_lt_of_le p2 hg.size)];exact World.cell?_of_block (hg.block p.block p2 (fun e=>p1.2 e.symm))
theorem Ai.grow {S0:Nat->Prop} {w w':World} {V V':Value} {d:D} {cs:List Value} (h:Ai (fun i=>S0 i/\V.ownBlock≠some i) w d cs) (hg:w.grownBy w' V.ownBlock) (ha:V'.ownBlock=V.ownBlock\/V'.ownBlock=some w.heap.size):Ai (fun i=>S0 i/\V'.ownBlock≠some i) w' d cs:=fun w'' k1 k2=>by
 refine Ah.more (h w'' (Nat.le_trans hg.size k1) fun p p1 p2=> ?_) hg.size;have hn:V'.ownBlock≠some p.block:=by
  rcases ha with e|e
  . rw[e];exact p1.2
  . rw[e];intro e4;have:=Option.some.inj e4;omega
 rw[k2 p ⟨p1.1,hn⟩ (Nat.lt_of_lt_of_le p2 hg.size)];exact World.cell?_of_block (hg.block p.block p2 (fun e=>p1.2 e.symm))
theorem A0.of_ins {S0:Nat->Prop} {b s n i:Nat} {e:TypeId} {w w':World} {l:List D} {d:D} {ns ys:List Value} {V V':Value} (h1:w'.ownsRow b e s V' n (ns.take (i*s)++ys++ns.drop (i*s))) (hs: ∀x ∈ l,x.cells=s) (hd:d.cells=s) (hA:At (fun i=>S0 i/\V.ownBlock≠some i) w l ns) (hx:Ai (fun i=>S0 i/\V.ownBlock≠some i) w d ys)
 (hg:w.grownBy w' V.ownBlock) (ha:V'.ownBlock=V.ownBlock\/V'.ownBlock=some w.heap.size) (hn:n=l.length+1):A0 S0 b e s w' (l.take i++ [d]++l.drop i) V':=by
 obtain⟨a1,a2⟩:=(hA.grow hg ha).split hs i;refine⟨_, ?_,fun x hx'=> ?_,(a1.app (At.one (hx.grow hg ha))).app a2⟩
 . rw[show(l.take i++ [d]++l.drop i).length=n from by rw[hn];simp;omega];exact h1
 . rcases List.mem_append.1 hx' with hx'|hx'
   . rcases List.mem_append.1 hx' with hx'|hx'
     . exact hs x (List.mem_of_mem_take hx')
     . rw[List.mem_singleton.1 hx'];exact hd
   . exact hs x (List.mem_of_mem_drop hx')
theorem Acv {cs:Array Value} {ns ys:List Value} {m o:Nat} (hc:cs.toList.take m=ns) (hn:ns.length=m) (ho:o+ys.length<=m):(Rt cs o ys).toList.take m=ns.take o++ys++ns.drop (o+ys.length):=by
 have hm:m<=cs.size:=by
  rw[<-hc,List.length_take,Array.length_toList]at hn;omega
 refine List.ext_getElem? fun j=> ?_;have hcj: ∀j,j<m->cs[j]? =ns[j]? :=fun j hj=>by rw[<-hc,List.getElem?_take,if_pos hj,Array.getElem?_toList]
 rw[List.getElem?_take];by_cases hj:j<m
 . rw[if_pos hj,Array.getElem?_toList,Ru _ _ _ _ (by omega)];by_cases h1:j<o
   . rw[if_neg (by omega),hcj j hj,List.append_assoc,List.getElem?_append_left (by rw[List.length_take];omega),List.getElem?_take,if_pos h1]
   by_cases h2:j<o+ys.length
   . rw[if_pos ⟨by omega,h2⟩,List.append_assoc,List.getElem?_append_right (by rw[List.length_take];omega),List.length_take,Nat.min_eq_left (by omega),List.getElem?_append_left (by omega)]
   . rw[if_neg (by omega),hcj j hj,List.getElem?_append_right (by rw[List.length_append,List.length_take];omega),List.getElem?_drop,List.length_append,List.length_take,Nat.min_eq_left (by omega)]
     congr 1
     omega
 . rw[if_neg hj,List.getElem?_eq_none (by rw[List.length_append,List.length_append,List.length_take,List.length_drop];omega)]
theorem A0.put {S0:Nat->Prop} {b s:Nat} {e:TypeId} {w:World} {l:List D} {d:D} {ys:List Value} {g i n c:Nat} (h:A0 S0 b e s w l (.slice (some ⟨g,0,none⟩) n c)) (hi:i<l.length) (hd:d.cells=s) (hx:Ai (fun i=>S0 i/\g≠i) w d ys):
 A0 S0 b e s (An w g (i*s) ys) (l.set i d) (.slice (some ⟨g,0,none⟩) n c):=by
 obtain⟨ns,h1,h2,h3⟩:=h;have hyl:ys.length=s:=hx.now.len.1.trans hd;have hnl:ns.length=l.length*s:=by rw[h3.now.len.1,Fi h2]
 have hos:i*s+s<=l.length*s:=by
  have:=Nat.mul_le_mul_right s (show i+1<=l.length by omega)
  rwa [Nat.add_mul,Nat.one_mul]at this
 have hsz:=Bb ys w g (i*s);have hf:=fun c (hc:c≠g)=>Ar ys w g (i*s) c hc;rcases h1.2 with⟨e1,_⟩|⟨g',cap,cur,e1,hbg,hg,hnc,hcm,hcs,hcx⟩
 . cases e1
 . cases e1
   have hmv: ∀w'':World,w.heap.size<=w''.heap.size->(∀p:Addr,S0 p.block/\(Value.slice (some ⟨g,0,none⟩) l.length c).ownBlock≠some p.block->p.block<w.heap.size->w''.cell? p=(An w g (i*s) ys).cell? p)-> ∀p:Addr,S0 p.block/\g≠p.block->p.block<w.heap.size->w''.cell? p=w.cell? p:=fun w'' k1 k2 p p1 p2=>by
    rw[k2 p ⟨p1.1,fun e=>p1.2 (Option.some.inj e)⟩ p2];exact World.cell?_of_block (hf p.block fun e=>p1.2 e.symm)
   have hA:=h3.split h2;have hval:l.set i d=l.take i++ [d]++l.drop (i+1):=by
    rw[List.set_eq_take_append_cons_drop,if_pos hi];simp
   refine⟨ns.take (i*s)++ys++ns.drop (i*s+ys.length),⟨?_,.inr ⟨g,c,Rt cur (i*s) ys,by rw[List.length_set],hbg,Mm ys hg,by rw[List.length_set];exact hnc,hcm,by rw[Oo];exact hcs, ?_⟩⟩,fun x hx'=> ?_,fun w'' k1 k2=> ?_⟩
   . rw[List.length_set,List.length_append,List.length_append,List.length_take,List.length_drop];omega
   . rw[List.length_set];exact Acv hcx hnl (by omega)
   . rcases List.mem_or_eq_of_mem_set hx' with hx'|rfl
     . exact h2 x hx'
     . exact hd
   . rw[hsz]at k1 k2 ⊢;have hk:=hmv w'' k1 k2;rw[hval,hyl,show i*s+s=(i+1)*s from by rw[Nat.add_mul,Nat.one_mul]];exact(((hA i).1 w'' k1 fun p p1 p2=>hk p ⟨p1.1,fun e=>p1.2 (by rw[e];rfl)⟩ p2).app (Ag.one (hx w'' k1 hk))).app ((hA (i+1)).2 w'' k1 fun p p1 p2=>hk p ⟨p1.1,fun e=>p1.2 (by rw[e];rfl)⟩ p2)
end Go.Proofs.YtkmcjfkokoidcaaGreatDoor
