/- Parts: commonplaceref01.Bytes: a rune's bytes. Condition: a rune of Unicode, no surrogate. -/
import Derived.Lib.RuneBytes
import Derived.Laws.IdiomStrings
import Derived.Test.YtnkmhaachfgaoaaGreatDoorKPq3
import Derived.Test.YtnkmhaachfgaoaaGreatDoorKPq4
set_option maxHeartbeats 20000000
namespace Go.Proofs.YtnkmhaachfgaoaaGreatDoor
open Go.RowKit
mutual
def dV:Val->D
 | .mk k b n t l o=> .agg [.leaf (.int .i64 k),.leaf (.bool b),.leaf (.int .i64 n),.leaf (.string t),.row 6 (dL l),.row 7 (dO o)]
def dL:List Val->List D
 | []=> []
 |v::r=>dV v::dL r
def dO:List (ByteArray×Val)->List D
 | []=> []
 |p::r=>dP p::dO r
def dP:ByteArray×Val->D
 |(key,v)=> .agg [.leaf (.string key),dV v]
end
theorem Mu: ∀l,dL l=l.map dV
 | []=>rfl
 |v::r=>by simp[dL,Mu r]
theorem Bi: ∀l,dO l=l.map dP
 | []=>rfl
 |v::r=>by simp[dO,Bi r]
theorem Ey (v:Val):(dV v).cells=6:=by
 obtain⟨k,b,n,t,l,o⟩:=v;rfl
theorem Dr (p:ByteArray×Val):(dP p).cells=7:=by
 obtain⟨k,v⟩:=p;simp only[dP,D.cells,Jf,Ey]
theorem W6 (l:List Val): ∀d ∈ dL l,d.cells=6:=by
 rw[Mu];intro d hd;obtain⟨v,_,rfl⟩:=List.mem_map.1 hd;exact Ey v
theorem Dh (l:List (ByteArray×Val)): ∀d ∈ dO l,d.cells=7:=by
 rw[Bi];intro d hd;obtain⟨v,_,rfl⟩:=List.mem_map.1 hd;exact Dr v
theorem Oq (l:List Val):(dL l).length=l.length:=by rw[Mu,List.length_map]
theorem At (l:List (ByteArray×Val)):(dO l).length=l.length:=by rw[Bi,List.length_map]
theorem Af.six {w:World} {B:Nat} {a b c d:Value} {e f:D} {cs:List Value}:
 Af w B [.leaf a,.leaf b,.leaf c,.leaf d,e,f] cs ↔ ∃c4 c5,cs= [a,b,c,d]++(c4++c5)/\a.oneCell'=true/\b.oneCell'=true/\c.oneCell'=true/\d.oneCell'=true/\Ae w B e c4/\Ae w B f c5:=by
 constructor
 . rintro⟨_,_,rfl,⟨rfl,ha⟩,_,_,rfl,⟨rfl,hb⟩,_,_,rfl,⟨rfl,hc⟩,_,_,rfl,⟨rfl,hd⟩,c4,_,rfl,h4,c5,_,rfl,h5,rfl⟩;exact⟨c4,c5,by simp,ha,hb,hc,hd,h4,h5⟩
 . rintro⟨c4,c5,rfl,ha,hb,hc,hd,h4,h5⟩;exact⟨[a],_,rfl,⟨rfl,ha⟩, [b],_,rfl,⟨rfl,hb⟩, [c],_,rfl,⟨rfl,hc⟩, [d],_,rfl,⟨rfl,hd⟩,c4,_,rfl,h4,c5, [],by simp,h5,rfl⟩
theorem Af.toL {w:World} {B:Nat} {g:Nat}: ∀{l:List Val},(∀v ∈ l,∀cs,Ae w B (dV v) cs->Ab w B v cs)-> ∀{ns:List Value} {off:Nat},Af w B (dL l) ns->(∀j u,ns[j]? =some u->w.cell? ⟨g,off+j,none⟩=some u)->Aj w B l g off
 | [],_,_,_,_,_=>by simp[Aj]
 |v::r,ih,ns,off,h,hc=>by
  obtain⟨c1,c2,rfl,h1,h2⟩:=h;have hl:c1.length=6:=h1.len.1.trans (Ey v);simp only[Aj];refine⟨⟨c1,ih v (by simp) c1 h1,fun j u hu=>hc j u (by rw[List.getElem?_append_left (List.getElem?_eq_some_iff.1 hu).1];exact hu)⟩,Af.toL (fun x hx=>ih x (by simp[hx])) h2 (fun j u hu=> ?_)⟩;rw[show off+6+j=off+(6+j)from by omega];refine hc (6+j) u ?_;rw[List.getElem?_append_right (by omega),hl,show 6+j - 6=j from by omega];exact hu
theorem Af.toO {w:World} {B:Nat} {g:Nat}: ∀{l:List (ByteArray×Val)},(∀m ∈ l,∀cs,Ae w B (dV m.2) cs->Ab w B m.2 cs)-> ∀{ns:List Value} {off:Nat},Af w B (dO l) ns->(∀j u,ns[j]? =some u->w.cell? ⟨g,off+j,none⟩=some u)->Ak w B l g off
 | [],_,_,_,_,_=>by simp[Ak]
 |(key,v)::r,ih,ns,off,h,hc=>by
  obtain⟨c1,c2,rfl,h1,h2⟩:=h;obtain⟨_,c3,rfl,⟨rfl,_⟩,cv,c4,rfl,h3,rfl⟩:=h1;have hl:cv.length=6:=h3.len.1.trans (Ey v);simp only[Ak,J5];refine⟨⟨by have:=hc 0 (.string key) rfl;simpa using this,cv,ih (key,v) (by simp) cv h3,fun j u hu=> ?_⟩,Af.toO (fun x hx=>ih x (by simp[hx])) h2 (fun j u hu=> ?_)⟩
  . have h5:=(List.getElem?_eq_some_iff.1 hu).1;rw[show off+1+j=off+(j+1)from by omega];refine hc (j+1) u ?_;simp only[List.append_nil,List.cons_append,List.nil_append,List.getElem?_cons_succ];rw[List.getElem?_append_left h5];exact hu
  . rw[show off+7+j=off+(6+j+1)from by omega];refine hc (6+j+1) u ?_;simp only[List.append_nil,List.cons_append,List.nil_append,List.getElem?_cons_succ];rw[List.getElem?_append_right (by omega),hl,show 6+j - 6=j from by omega];exact hu
theorem Bp {w:World} {B:Nat}: ∀(v:Val) cs,Ae w B (dV v) cs->Ab w B v cs:=by
 refine Val.ind ?_;intro k b n t l o hl ho cs h;simp only[dV,Ae]at h;obtain⟨c4,c5,rfl,_,_,_,_,⟨a4,n4,rfl,_,ns4,h4,i4⟩,⟨a5,n5,rfl,_,ns5,h5,i5⟩⟩:=Af.six.1 h;simp only[Ab];refine⟨a4,n4,a5,n5,by simp[Dk,Oq,At], ?_, ?_⟩
 . rcases i4 with e|⟨g,off,e,hg,hc⟩
   . refine .inl ?_
     cases l with
     |nil=>rfl
     |cons x r=>simp[dL]at e
   . exact .inr ⟨g,off,e,hg,Af.toL hl h4 hc⟩
 . rcases i5 with e|⟨g,off,e,hg,hc⟩
   . refine .inl ?_
     cases o with
     |nil=>rfl
     |cons x r=>simp[dO]at e
   . exact .inr ⟨g,off,e,hg,Af.toO ho h5 hc⟩
theorem Af.ofL {w:World} {B:Nat} {g:Nat}: ∀{l:List Val},(∀v ∈ l,∀cs,Ab w B v cs->Ae w B (dV v) cs)-> ∀{off:Nat},Aj w B l g off-> ∃ns,Af w B (dL l) ns/\ ∀j u,ns[j]? =some u->w.cell? ⟨g,off+j,none⟩=some u
 | [],_,_,_=>⟨[],rfl,fun j u h=>by simp at h⟩
 |v::r,ih,off,h=>by
  simp only[Aj]at h;obtain⟨⟨cs,h1,hc⟩,h2⟩:=h;have h1':=ih v (by simp) cs h1;have hl:cs.length=6:=h1'.len.1.trans (Ey v);obtain⟨ns,h3,h4⟩:=Af.ofL (fun x hx=>ih x (by simp[hx])) h2;refine⟨cs++ns,⟨cs,ns,rfl,h1',h3⟩,fun j u hu=> ?_⟩;by_cases hj:j<6
  . rw[List.getElem?_append_left (by omega)]at hu;exact hc j u hu
  . rw[List.getElem?_append_right (by omega),hl]at hu;have:=h4 (j - 6) u hu
    rwa [show off+6+(j - 6)=off+j from by omega]at this
theorem Af.ofO {w:World} {B:Nat} {g:Nat}: ∀{l:List (ByteArray×Val)},(∀m ∈ l,∀cs,Ab w B m.2 cs->Ae w B (dV m.2) cs)-> ∀{off:Nat},Ak w B l g off-> ∃ns,Af w B (dO l) ns/\ ∀j u,ns[j]? =some u->w.cell? ⟨g,off+j,none⟩=some u
 | [],_,_,_=>⟨[],rfl,fun j u h=>by simp at h⟩
 |(key,v)::r,ih,off,h=>by
  simp only[Ak,J5]at h;obtain⟨⟨h0,cs,h1,hc⟩,h2⟩:=h;have h1':=ih (key,v) (by simp) cs h1;have hl:cs.length=6:=h1'.len.1.trans (Ey v);obtain⟨ns,h3,h4⟩:=Af.ofO (fun x hx=>ih x (by simp[hx])) h2;refine⟨(.string key::cs)++ns,⟨.string key::cs,ns,rfl,⟨[.string key],cs,rfl,⟨rfl,rfl⟩,cs, [],by simp,h1',rfl⟩,h3⟩,fun j u hu=> ?_⟩
  match j,hu with
  |0,hu=>
   simp at hu;subst hu;exact h0
  |j+1,hu=>
   simp only[List.cons_append,List.getElem?_cons_succ]at hu;by_cases hj:j<6
   . rw[List.getElem?_append_left (by omega)]at hu;have:=hc j u hu
     rwa [show off+1+j=off+(j+1)from by omega]at this
   . rw[List.getElem?_append_right (by omega),hl]at hu;have:=h4 (j - 6) u hu
     rwa [show off+7+(j - 6)=off+(j+1)from by omega]at this
theorem D6 {w:World} {B:Nat}: ∀(v:Val) cs,Ab w B v cs->Ae w B (dV v) cs:=by
 refine Val.ind ?_;intro k b n t l o hl ho cs h;simp only[Ab]at h;obtain⟨la,lc,oa,oc,rfl,h1,h2⟩:=h;simp only[dV,Ae];refine Af.six.2 ⟨[.slice la l.length lc], [.slice oa o.length oc],rfl,rfl,rfl,rfl,rfl, ?_, ?_⟩
 . rcases h1 with rfl|⟨g,off,e,hg,h1⟩
   . exact⟨la,lc,rfl,W6 _, [],rfl,.inl rfl⟩
   . obtain⟨ns,h3,h4⟩:=Af.ofL hl h1;exact⟨la,lc,by rw[Oq],W6 _,ns,h3,.inr ⟨g,off,e,hg,h4⟩⟩
 . rcases h2 with rfl|⟨g,off,e,hg,h2⟩
   . exact⟨oa,oc,rfl,Dh _, [],rfl,.inl rfl⟩
   . obtain⟨ns,h3,h4⟩:=Af.ofO ho h2;exact⟨oa,oc,by rw[At],Dh _,ns,h3,.inr ⟨g,off,e,hg,h4⟩⟩
theorem Db {w:World} {g:Nat} {t:TypeId} {cs:Array Value} (h:Ah w g t cs):A5 w (g+1) cs.size (some ⟨g,0,none⟩) 1 cs.toList:=by
 refine⟨by simp,fun _=>⟨_,rfl,by simp,fun j u hu=> ?_⟩⟩;rw[A9,Nat.zero_add];exact(h.cell j).trans (by rw[<-Array.getElem?_toList];exact hu)
theorem Dq.lit {b:Nat} {t:TypeId} {w:World} {d:D} {cs:Array Value} (hb:b<=w.heap.size) (hd:d.cells=cs.size) (h: ∀w'' B,Ae w'' B d cs.toList):
 Dq b t cs.size (w.alloc (.cells cs t)) [d] (.slice (some ⟨w.heap.size,0,none⟩) 1 1):=
 ⟨cs.toList,World.ownsRow_lit w cs 1 hb (by simp[maxLen]) (by simp),fun x hx=>by simp at hx;rw[hx];exact hd,fun w'' _ _=>Af.one (h w'' _)⟩
theorem Dq.slice {b:Nat} {t:TypeId} {s:Nat} {wr:World} {l:List D} {V:Value} (h:Dq b t s wr l V): ∃a c,V=.slice a l.length c:=by
 obtain⟨ns,h1,_⟩:=h;rcases h1.2 with⟨rfl,h0⟩|⟨g,cap,cur,rfl,_⟩
 . exact⟨_,_,by rw[h0]⟩
 . exact⟨_,_,rfl⟩
theorem Dq.now {b:Nat} {t:TypeId} {s:Nat} {wr:World} {l:List D} {a:Option Addr} {n c:Nat} (h:Dq b t s wr l (.slice a n c)):Ae wr wr.heap.size (.row s l) [.slice a n c]:=by
 obtain⟨a',c',e,_,hf,_⟩:=h.close
 cases e
 exact hf.now
section
variable {P:Program}
theorem Vo {t ty e:TypeId} {i:TypeInfo} {z:Value} {sz bytes:Nat} (ht:P.underlying t=some (.slice e)) (hi:P.info? e=some i) (hz:i.zero=some z) (hsize:i.size=sz) (hby:i.bytes=bytes) (hzs:z.cells.size=sz) (hsz:0<sz)
 {b:Nat} {wr w:World} {l:List D} {V:Value} (hrow:Dq b e sz wr l V) (hbw:b<=wr.heap.size) (hbe:Below wr.heap.size wr w) {d:D} {cs:List Value} (hd:d.cells=sz) (hx:Bv wr.heap.size w d cs)
 {B:Nat} {A:Option Addr} {c:Nat} (hr:A5 w B sz A 1 cs) (h63:l.length+1<=maxLen) (hbytes:(l.length+1)*bytes<=140737488355328):
 ∃V' w6,(Builtin.append_ #[t,t] ty #[V,.slice A 1 c]).run P w=.ok V' w6/\Dq b e sz w6 (l++ [d]) V'/\w.grownBy w6 V.ownBlock/\(V'.ownBlock=V.ownBlock\/V'.ownBlock=some w.heap.size):=by
 obtain⟨ns,h1,h2,h3⟩:=hrow.below hbe;have h1r:=hrow;obtain⟨ns0,k1,k2,k3⟩:=h1r;have hown:w.ownsRow b e sz V l.length ns0:=by
  refine k1.kept (row:=none) ⟨hbe.os,hbe.tape,hbe.output,hbe.size,fun j hj _=>hbe.block j hj⟩ ?_
  cases hv:V.ownBlock<;>simp
 obtain⟨V',w6,hrun,g1,g2,g3⟩:=Ga (P:=P) w b t ty e i z sz bytes ht hi hz hsize hby hzs hsz V l.length ns0 hown B A 1 c cs hr hx.now.len.2 h63 hbytes (Nat.le_trans hbw hbe.size);refine⟨V',w6,hrun, ?_,g2,g3⟩;refine Dq.step hbw k3 k2 hd hx (fun g hg=>(k1.lt g hg).2) g1 ?_ hbe.size g2.size (fun p _ p2=>hbe.cell p2) (fun p _ p2 p3=>World.cell?_of_block (g2.block p.block p2 (fun e=>p3 e.symm)));rcases g3 with g3|g3
 . exact .inl g3
 . exact .inr ⟨_,g3,Nat.le_refl _⟩
theorem Pz {o:Oper} {a:Act} {K:Act->World->Prop} {Q:Exit->Act->World->Prop} (s x:Operand) (t:TypeId) {e:TypeId}
 (ho:o.op=.call {callee:=.builtin .append,args:= #[s,x],argTypes:= #[t,t]}) {i:TypeInfo} {z:Value} {sz bytes:Nat} (ht:P.underlying t=some (.slice e)) (hi:P.info? e=some i) (hz:i.zero=some z) (hsize:i.size=sz) (hby:i.bytes=bytes) (hzs:z.cells.size=sz) (hsz:0<sz)
 {b:Nat} {wr w:World} {l:List D} {V:Value} (hs:a.eval s=V) (hrow:Dq b e sz wr l V) (hbw:b<=wr.heap.size) (hbe:Below wr.heap.size wr w) {d:D} {cs:List Value} (hd:d.cells=sz) (hf:Bv wr.heap.size w d cs)
 {B:Nat} {A:Option Addr} {c:Nat} (hx:a.eval x=.slice A 1 c) (hr:A5 w B sz A 1 cs) (h63:l.length+1<=maxLen) (hbytes:(l.length+1)*bytes<=140737488355328)
 (h: ∀V' w6,Dq b e sz w6 (l++ [d]) V'->w.grownBy w6 V.ownBlock->(V'.ownBlock=V.ownBlock\/V'.ownBlock=some w.heap.size)->K (a.put o.dst V') w6):o.wp P a w K Q:=by
 obtain⟨V',w6,hrun,g1,g2,g3⟩:=Vo (ty:=o.type) (c:=c) ht hi hz hsize hby hzs hsz hrow hbw hbe hd hf hr h63 hbytes;unfold Oper.wp execOp;simp only[ho,resolve,invoke,builtin,Sem.run_bind,Sem.run_pure,Result.andThen_ok,List.map_toArray,List.map_cons,List.map_nil,hs,hx,hrun];exact h V' w6 g1 g2 g3
theorem G4 {ops:Array Oper} {rest:List Oper} {o:Oper} {a:Act} {Q:Exit->Act->World->Prop} (hgd:o.guard=none) (s x:Operand) (t:TypeId) {e:TypeId}
 (ho:o.op=.call {callee:=.builtin .append,args:= #[s,x],argTypes:= #[t,t]}) {i:TypeInfo} {z:Value} {sz bytes:Nat} (ht:P.underlying t=some (.slice e)) (hi:P.info? e=some i) (hz:i.zero=some z) (hsize:i.size=sz) (hby:i.bytes=bytes) (hzs:z.cells.size=sz) (hsz:0<sz)
 {b:Nat} {wr w:World} {l:List D} {V:Value} (hs:a.eval s=V) (hrow:Dq b e sz wr l V) (hbw:b<=wr.heap.size) (hbe:Below wr.heap.size wr w) {d:D} {cs:List Value} (hd:d.cells=sz) (hf:Bv wr.heap.size w d cs)
 {B:Nat} {A:Option Addr} {c:Nat} (hx:a.eval x=.slice A 1 c) (hr:A5 w B sz A 1 cs) (h63:l.length+1<=maxLen) (hbytes:(l.length+1)*bytes<=140737488355328)
 (h: ∀V' w6,Dq b e sz w6 (l++ [d]) V'->w.grownBy w6 V.ownBlock->(V'.ownBlock=V.ownBlock\/V'.ownBlock=some w.heap.size)->wpList P ops Q rest (a.put o.dst V') w6):wpList P ops Q (o::rest) a w:=
 wpList_plain hgd fun _ hK=>Pz s x t ho ht hi hz hsize hby hzs hsz hs hrow hbw hbe hd hf hx hr h63 hbytes fun V' w6 h2 h3 h4=>hK _ _ (h V' w6 h2 h3 h4)
theorem Mi {ops:Array Oper} {o:Oper} {a:Act} {K:Act->World->Prop} {Q:Exit->Act->World->Prop} {E:Prop} (hgd:o.guard=none) (s x:Operand) (t:TypeId) {e:TypeId}
 (ho:o.op=.call {callee:=.builtin .append,args:= #[s,x],argTypes:= #[t,t]}) {i:TypeInfo} {z:Value} {sz bytes:Nat} (ht:P.underlying t=some (.slice e)) (hi:P.info? e=some i) (hz:i.zero=some z) (hsize:i.size=sz) (hby:i.bytes=bytes) (hzs:z.cells.size=sz) (hsz:0<sz)
 {b:Nat} {wr w:World} {l:List D} {V:Value} (hs:a.eval s=V) (hrow:Dq b e sz wr l V) (hbw:b<=wr.heap.size) (hbe:Below wr.heap.size wr w) {d:D} {cs:List Value} (hd:d.cells=sz) (hf:Bv wr.heap.size w d cs)
 {B:Nat} {A:Option Addr} {c:Nat} (hx:a.eval x=.slice A 1 c) (hr:A5 w B sz A 1 cs) (h63:l.length+1<=maxLen) (hbytes:(l.length+1)*bytes<=140737488355328)
 (h: ∀V' w6,Dq b e sz w6 (l++ [d]) V'->w.grownBy w6 V.ownBlock->(V'.ownBlock=V.ownBlock\/V'.ownBlock=some w.heap.size)->K (a.put o.dst V') w6):
 if Region.wanted o (yielded ops a.tmps)=true then Oper.wp P o a w K Q else E:=by
 have hw:Region.wanted o (yielded ops a.tmps)=true:=by simp[Region.wanted,hgd]
 rw[if_pos hw];exact Pz s x t ho ht hi hz hsize hby hzs hsz hs hrow hbw hbe hd hf hx hr h63 hbytes h
end
abbrev C9:Array Value:= #[.int .i64 0,.bool false,.int .i64 0,.string ⟨#[]⟩,.slice none 0 0,.slice none 0 0]
theorem Oe {B:Nat} {w4:World} {k:Int} {b:Bool} {n:Int} {t:ByteArray} {l:List Val} {o:List (ByteArray×Val)} {cs:List Value} (h:Bv B w4 (dV (.mk k b n t l o)) cs): ∃la lc oa oc,cs= [.int .i64 k,.bool b,.int .i64 n,.string t,.slice la l.length lc,.slice oa o.length oc]:=by
 have h1:=Bp _ _ h.now;simp only[Ab]at h1;obtain⟨la,lc,oa,oc,e,_,_⟩:=h1;exact⟨la,lc,oa,oc,e⟩
theorem Dv {w:World} {g:Nat} {t:TypeId} {a0 a1 a2 a3 a4 a5:Value} (h:Ah w g t #[a0,a1,a2,a3,a4,a5]):
 w.cell? ⟨g,0,none⟩=some a0/\w.cell? ⟨g,1,none⟩=some a1/\w.cell? ⟨g,2,none⟩=some a2/\w.cell? ⟨g,3,none⟩=some a3/\w.cell? ⟨g,4,none⟩=some a4/\w.cell? ⟨g,5,none⟩=some a5:=
 ⟨h.cell 0,h.cell 1,h.cell 2,h.cell 3,h.cell 4,h.cell 5⟩
theorem Qv {B:Nat} {w:World} {key:ByteArray} {v:Val} {cs:List Value} (h:Bv B w (dV v) cs):Bv B w (dP (key,v)) (.string key::cs):=fun w'' h1 h2=>⟨[.string key],cs,rfl,⟨rfl,rfl⟩,cs, [],by simp,h w'' h1 h2,rfl⟩
theorem Ri:(Tryz.prog.info? 94).map (fun i=>(i.zero,i.size,i.bytes))=some (some (.agg #[.string ⟨#[]⟩,.int .i64 0,.bool false,.int .i64 0,.string ⟨#[]⟩,.slice none 0 0,.slice none 0 0]),7,104):=by kernel_rfl
theorem Jh {fn:Func} {t:Tmp} {tmps:Array Value} {W:World} {R:Nat} {a0 a1 a2 a3 a4 a5:Value} (h:fn.results= #[.cell t 40]) (hp:tmps.getD t undef=.pointer (some ⟨R,0,none⟩)) (hx:Ah W R 40 #[a0,a1,a2,a3,a4,a5]):
 (results fn tmps).run Tryz.prog W=.ok (.agg #[a0,a1,a2,a3,a4,a5]) W:=by
 obtain⟨c0,c1,c2,c3,c4,c5⟩:=Dv hx;clear hx;have hp':tmps[t]?.getD undef=.pointer (some ⟨R,0,none⟩):=by simpa using hp
 simp[results,h,hp',go_sem,c0,c1,c2,c3,c4,c5]
theorem Dq.slice_n {b:Nat} {t:TypeId} {s n:Nat} {wr:World} {l:List D} {V:Value} (h:Dq b t s wr l V) (hn:l.length=n): ∃a c,V=.slice a n c:=by
 subst hn;exact h.slice
theorem Lu {w w6:World} {R b:Nat} {t e:TypeId} {sz:Nat} {l:List D} {V:Value} {cs:Array Value} {wr:World} (h:Ah w R t cs) (hg:w.grownBy w6 V.ownBlock) (hr:Dq b e sz wr l V) (hR:R<b):Ah w6 R t cs:=
 h.grown hg fun e=>by have:=(hr.base R e.symm).1;omega
theorem Jm {w w6:World} {B b:Nat} {e:TypeId} {sz:Nat} {l:List D} {V:Value} {w0 wr:World} (h:Below B w0 w) (hg:w.grownBy w6 V.ownBlock) (hr:Dq b e sz wr l V) (hB:B<=b) (hBw:B<=w.heap.size):Below B w0 w6:=
 h.grown hg hBw fun k hk=>Nat.le_trans hB (hr.base k hk).1
theorem Li (w:World) (a0 a1 a2 a3 a4 a5 a6:Value):A5 (w.alloc (.cells #[a0,a1,a2,a3,a4,a5,a6] 94)) (w.heap.size+1) 7 (some ⟨w.heap.size,0,none⟩) 1 [a0,a1,a2,a3,a4,a5,a6]:=Db (Ah.new w 94 #[a0,a1,a2,a3,a4,a5,a6])
theorem Agi:(Tryz.prog.info? 40).map (fun i=>(i.zero,i.size,i.bytes))=some (some (.agg #[.int .i64 0,.bool false,.int .i64 0,.string ⟨#[]⟩,.slice none 0 0,.slice none 0 0]),6,88):=by kernel_rfl
theorem Ade (w:World) (a0 a1 a2 a3 a4 a5:Value):A5 (w.alloc (.cells #[a0,a1,a2,a3,a4,a5] 40)) (w.heap.size+1) 6 (some ⟨w.heap.size,0,none⟩) 1 [a0,a1,a2,a3,a4,a5]:=Db (Ah.new w 40 #[a0,a1,a2,a3,a4,a5])
theorem Fd {fn:Func} {t u:Tmp} {tmps:Array Value} {W:World} {R:Nat} {a0 a1 a2 a3 a4 a5:Value} (h:fn.results= #[.cell t 40,.tmp u]) (hp:tmps.getD t undef=.pointer (some ⟨R,0,none⟩)) (hx:Ah W R 40 #[a0,a1,a2,a3,a4,a5]):
 (results fn tmps).run Tryz.prog W=.ok (.tuple #[.agg #[a0,a1,a2,a3,a4,a5],tmps.getD u undef]) W:=by
 obtain⟨c0,c1,c2,c3,c4,c5⟩:=Dv hx;clear hx;have hp':tmps[t]?.getD undef=.pointer (some ⟨R,0,none⟩):=by simpa using hp
 simp[results,h,hp',go_sem,c0,c1,c2,c3,c4,c5]
def A8 (w:World) (g o:Nat):List Value->World
 | []=>w
 |v::r=>A8 (w.setCell ⟨g,o,none⟩ v) g (o+1) r
def L8 (cs:Array Value) (o:Nat):List Value->Array Value
 | []=>cs
 |v::r=>L8 (cs.setIfInBounds o v) (o+1) r
theorem Cm: ∀(vs:List Value) (w:World) (g o:Nat),(A8 w g o vs).heap.size=w.heap.size
 | [],_,_,_=>rfl
 |v::r,w,g,o=>by simp only[A8];rw[Cm r];simp[World.setCell]
theorem C8: ∀(vs:List Value) (w:World) (g o c:Nat),c≠g->(A8 w g o vs).heap[c]? =w.heap[c]?
 | [],_,_,_,_,_=>rfl
 |v::r,w,g,o,c,h=>by
  simp only[A8];rw[C8 r _ _ _ _ h];simp only[World.setCell,Array.getElem?_modify];rw[if_neg (fun e=>h e.symm)]
theorem Gm: ∀(vs:List Value) {w:World} {g o:Nat} {cs:Array Value} {t:TypeId},w.heap[g]? =some (.cells cs t (0,0))->(A8 w g o vs).heap[g]? =some (.cells (L8 cs o vs) t (0,0))
 | [],_,_,_,_,_,h=>h
 |v::r,w,g,o,cs,t,h=>by
  simp only[A8,L8];exact Gm r (by simp[World.setCell,Array.getElem?_modify,h])
theorem Bl {B:Nat} {a:World}: ∀(vs:List Value) {w:World} {g o:Nat},Below B a w->B<=g->Below B a (A8 w g o vs)
 | [],_,_,_,h,_=>h
 |v::r,w,g,o,h,hg=>by
  simp only[A8];exact Bl r (h.setCell hg _) hg
theorem Ie: ∀(vs:List Value) (cs:Array Value) (o:Nat),(L8 cs o vs).size=cs.size
 | [],_,_=>rfl
 |v::r,cs,o=>by simp only[L8];rw[Ie r];simp
theorem N9: ∀(vs:List Value) (cs:Array Value) (o i:Nat),o+vs.length<=cs.size->(L8 cs o vs)[i]? =if o<=i/\i<o+vs.length then vs[i - o]? else cs[i]?
 | [],cs,o,i,_=>by
   simp only[L8,List.length_nil];rw[if_neg (by omega)]
 |v::r,cs,o,i,h=>by
  simp only[List.length_cons]at h;simp only[L8];rw[N9 r _ _ _ (by simp;omega)];by_cases h1:o+1<=i/\i<o+1+r.length
  . rw[if_pos h1,if_pos ⟨by omega,by simp only[List.length_cons];omega⟩,show i - o=(i - (o+1))+1 from by omega,List.getElem?_cons_succ]
  . rw[if_neg h1];by_cases h2:i=o
    . subst h2;rw[if_pos ⟨Nat.le_refl _,by simp⟩];simp only[Nat.sub_self,List.getElem?_cons_zero];rw[Array.getElem?_setIfInBounds_self_of_lt (by omega)]
    . rw[if_neg (by simp only[List.length_cons];omega),Array.getElem?_setIfInBounds_ne (by omega)]
def D8 (b g:Nat) (t:TypeId) (s N:Nat) (wr:World) (l:List D):Prop:=
 b<=g/\l.length<=N/\(∀d ∈ l,d.cells=s)/\ ∃(cs:Array Value) (ns:List Value),wr.heap[g]? =some (.cells cs t (0,0))/\cs.size=N*s/\(∀(j:Nat) (u:Value),ns[j]? =some u->cs[j]? =some u)/\
  ∀w'':World,wr.heap.size<=w''.heap.size->(∀p:Addr,b<=p.block->p.block<wr.heap.size->p.block≠g->w''.cell? p=wr.cell? p)->Af w'' wr.heap.size l ns
theorem D8.start {b g:Nat} {t:TypeId} {s N:Nat} {wr:World} {cs:Array Value} (hb:b<=g) (hg:wr.heap[g]? =some (.cells cs t (0,0))) (hs:cs.size=N*s):D8 b g t s N wr []:=
 ⟨hb,Nat.zero_le _,fun d hd=>(by cases hd),cs, [],hg,hs,fun j u h=>(by simp at h),fun _ _ _=>rfl⟩
theorem D8.lt {b g:Nat} {t:TypeId} {s N:Nat} {wr:World} {l:List D} (h:D8 b g t s N wr l):g<wr.heap.size:=by
 obtain⟨_,_,_,cs,ns,h4,_⟩:=h;exact(Array.getElem?_eq_some_iff.1 h4).1
theorem D8.cell {b g:Nat} {t:TypeId} {s N:Nat} {wr:World} {l:List D} (h:D8 b g t s N wr l):(∀j,j<N*s-> ∃u,wr.cell? ⟨g,j,none⟩=some u)/\ ∀j,wr.frozen? ⟨g,j,none⟩=false:=by
 obtain⟨_,_,_,cs,ns,h4,h5,_⟩:=h;refine⟨fun j hj=> ?_,fun j=> ?_⟩
 . exact⟨cs[j],by rw[cell_of_row wr g j cs t (0,0) h4];exact Array.getElem?_eq_getElem (by omega)⟩
 . simp[World.frozen?,h4]
theorem D8.keep {b g:Nat} {t:TypeId} {s N:Nat} {wr w':World} {l:List D} (h:D8 b g t s N wr l) (hs:wr.heap.size<=w'.heap.size) (hk: ∀i,b<=i->i<wr.heap.size->w'.heap[i]? =wr.heap[i]?):D8 b g t s N w' l:=by
 have hlt:=h.lt;obtain⟨h1,h2,h3,cs,ns,h4,h5,h6,h7⟩:=h;exact⟨h1,h2,h3,cs,ns,(hk g h1 hlt).trans h4,h5,h6,fun w'' k1 k2=>Af.more (h7 w'' (by omega) (fun p p1 p2 p3=>(k2 p p1 (by omega) p3).trans (World.cell?_of_block (hk p.block p1 p2)))) hs⟩
theorem D8.below {b g:Nat} {t:TypeId} {s N:Nat} {wr w':World} {l:List D} (h:D8 b g t s N wr l) (hb:Below wr.heap.size wr w'):D8 b g t s N w' l:=h.keep hb.size fun i _ hi=>hb.block i hi
theorem D8.step {b g:Nat} {t:TypeId} {s N:Nat} {wr w4:World} {l:List D} {d:D} {cs':List Value} (h:D8 b g t s N wr l) (hl:l.length<N) (hd:d.cells=s) (hx:Bv wr.heap.size w4 d cs') (h4:Below wr.heap.size wr w4):
 D8 b g t s N (A8 w4 g (l.length*s) cs') (l++ [d]):=by
 have hlt:=h.lt;have h':=h.below h4;obtain⟨h1,h2,h3,cs,ns,k4,h5,h6,h7⟩:=h';have hcl:cs'.length=s:=hx.now.len.1.trans hd;have hnl:ns.length=l.length*s:=by
  have hA:=h7 w4 (Nat.le_refl _) (fun _ _ _ _=>rfl);rw[hA.len.1,D5 h3]
 have hN:l.length*s+s<=N*s:=by
  have:=Nat.mul_le_mul_right s (show l.length+1<=N by omega);rw[Nat.add_mul,Nat.one_mul]at this;exact this
 have hsz:=h4.size;refine⟨h1,by rw[List.length_append,List.length_cons,List.length_nil];omega, ?_,L8 cs (l.length*s) cs',ns++cs',Gm cs' k4,by rw[Ie];exact h5, ?_, ?_⟩
 . intro x hx';rcases List.mem_append.1 hx' with hx'|hx'
   . exact h3 x hx'
   . simp only[List.mem_cons,List.not_mem_nil,or_false]at hx';rw[hx'];exact hd
 . intro j u hj;rw[N9 cs' cs (l.length*s) j (by omega)];by_cases hjn:j<ns.length
   . rw[List.getElem?_append_left hjn]at hj;rw[if_neg (by omega)];exact h6 j u hj
   . rw[List.getElem?_append_right (by omega)]at hj;have:=(List.getElem?_eq_some_iff.1 hj).1;rw[if_pos ⟨by omega,by omega⟩,<-hnl];exact hj
 . intro w'' k1 k2;rw[Cm]at k1 k2 ⊢;have hfar: ∀p:Addr,b<=p.block->p.block<w4.heap.size->p.block≠g->w''.cell? p=w4.cell? p:=fun p p1 p2 p3=>(k2 p p1 p2 p3).trans (World.cell?_of_block (C8 cs' w4 g _ _ p3));exact(h7 w'' k1 hfar).snoc (hx w'' k1 (fun p p1 p2=>hfar p (by omega) p2 (by omega)))
theorem D8.close {b g:Nat} {t:TypeId} {s:Nat} {wr:World} {l:List D} (h:D8 b g t s l.length wr l) (c:Nat):Bv b wr (.row s l) [.slice (some ⟨g,0,none⟩) l.length c]:=by
 have hlt:=h.lt;obtain⟨h1,h2,h3,cs,ns,h4,h5,h6,h7⟩:=h;intro w'' k1 k2;refine⟨_,c,rfl,h3,ns,h7 w'' k1 (fun p p1 p2 _=>k2 p p1 p2),.inr ⟨g,0,rfl,hlt,fun j u hu=> ?_⟩⟩;rw[k2 _ h1 hlt,Nat.zero_add,cell_of_row wr g j cs t (0,0) h4];exact h6 j u hu
def Ag (S:Nat->Prop) (w:World) (d:D) (cs:List Value):Prop:=
 ∀w'':World,w.heap.size<=w''.heap.size->(∀p:Addr,S p.block->p.block<w.heap.size->w''.cell? p=w.cell? p)->Ae w'' w.heap.size d cs
def An (S:Nat->Prop) (w:World) (l:List D) (cs:List Value):Prop:=
 ∀w'':World,w.heap.size<=w''.heap.size->(∀p:Addr,S p.block->p.block<w.heap.size->w''.cell? p=w.cell? p)->Af w'' w.heap.size l cs
theorem Ag.now {S:Nat->Prop} {w:World} {d:D} {cs:List Value} (h:Ag S w d cs):Ae w w.heap.size d cs:=h w (Nat.le_refl _) fun _ _ _=>rfl
theorem An.now {S:Nat->Prop} {w:World} {l:List D} {cs:List Value} (h:An S w l cs):Af w w.heap.size l cs:=h w (Nat.le_refl _) fun _ _ _=>rfl
theorem Ag.mono {S T:Nat->Prop} {w:World} {d:D} {cs:List Value} (h:Ag S w d cs) (hST: ∀i,i<w.heap.size->S i->T i):Ag T w d cs:=
 fun w'' h1 h2=>h w'' h1 fun p p1 p2=>h2 p (hST _ p2 p1) p2
theorem Ag.of_old {B:Nat} {w w':World} {d:D} {cs:List Value} (h:Ae w B d cs) (hB:B<=w.heap.size) (hb:Below B w w'):Ag (fun i=>i<B) w' d cs:=fun _ _ h2=>
 (h.keep (fun p hp=>(h2 p hp (Nat.lt_of_lt_of_le hp (Nat.le_trans hB hb.size))).trans (hb.cell hp))).more (Nat.le_trans hB hb.size)
theorem Ag.later {S:Nat->Prop} {w w':World} {d:D} {cs:List Value} (h:Ag S w d cs) (hs:w.heap.size<=w'.heap.size) (hk: ∀p:Addr,S p.block->p.block<w.heap.size->w'.cell? p=w.cell? p):Ag S w' d cs:=fun w'' h1 h2=>
 (h w'' (Nat.le_trans hs h1) fun p p1 p2=>(h2 p p1 (Nat.lt_of_lt_of_le p2 hs)).trans (hk p p1 p2)).more hs
theorem Ag.below {S:Nat->Prop} {w w':World} {d:D} {cs:List Value} (h:Ag S w d cs) (hb:Below w.heap.size w w'):Ag S w' d cs:=h.later hb.size fun _ _ p2=>hb.cell p2
theorem An.one {S:Nat->Prop} {w:World} {d:D} {cs:List Value} (h:Ag S w d cs):An S w [d] cs:=fun w'' h1 h2=>Af.one (h w'' h1 h2)
theorem An.app {S:Nat->Prop} {w:World} {l r:List D} {cs es:List Value} (h:An S w l cs) (k:An S w r es):An S w (l++r) (cs++es):=fun w'' h1 h2=>(h w'' h1 h2).app (k w'' h1 h2)
theorem Ag.blk {S:Nat->Prop} {w:World} {g:Nat} {t:TypeId} {cs:Array Value} {l:List D} {s n c:Nat} (h:Ah w g t cs) (hS:S g) (hs: ∀d ∈ l,d.cells=s) (hA:An S w l cs.toList) (hn:n=l.length):Ag S w (.row s l) [.slice (some ⟨g,0,none⟩) n c]:=by
 subst hn;intro w'' h1 h2;exact⟨_,c,rfl,hs,cs.toList,hA w'' h1 h2,.inr ⟨g,0,rfl,h.lt,fun j u hu=>by
  rw[Nat.zero_add,h2 ⟨g,j,none⟩ hS h.lt];exact(h.cell j).trans (by rw[<-Array.getElem?_toList];exact hu)⟩⟩
def Al (S0:Nat->Prop) (b:Nat) (t:TypeId) (s:Nat) (wr:World) (l:List D) (V:Value):Prop:=
 ∃ns,wr.ownsRow b t s V l.length ns/\(∀d ∈ l,d.cells=s)/\An (fun i=>S0 i/\V.ownBlock≠some i) wr l ns
theorem Al.nil (S0:Nat->Prop) (b:Nat) (t:TypeId) (s:Nat) (wr:World):Al S0 b t s wr [] (.slice none 0 0):=⟨[],World.ownsRow_nil _ _ _ _,fun d hd=>(by cases hd),fun _ _ _=>rfl⟩
theorem Al.base {S0:Nat->Prop} {b:Nat} {t:TypeId} {s:Nat} {wr:World} {l:List D} {V:Value} (h:Al S0 b t s wr l V): ∀g,V.ownBlock=some g->b<=g/\g<wr.heap.size:=by
 obtain⟨ns,h1,_⟩:=h;exact h1.lt
theorem Al.keep {S0:Nat->Prop} {b:Nat} {t:TypeId} {s:Nat} {wr w':World} {l:List D} {V:Value} (h:Al S0 b t s wr l V) (hs:wr.heap.size<=w'.heap.size) (hk: ∀i,i<wr.heap.size->w'.heap[i]? =wr.heap[i]?):Al S0 b t s w' l V:=by
 obtain⟨ns,h1,h2,h3⟩:=h;refine⟨ns,⟨h1.1, ?_⟩,h2,fun w'' k1 k2=>Af.more (h3 w'' (by omega) (fun p p1 p2=>(k2 p p1 (by omega)).trans (World.cell?_of_block (hk p.block p2)))) hs⟩;rcases h1.2 with⟨rfl,h0⟩|⟨g,cap,cur,rfl,hbg,hg,h5⟩
 . exact .inl ⟨rfl,h0⟩
 . exact .inr ⟨g,cap,cur,rfl,hbg,(hk g (Array.getElem?_eq_some_iff.1 hg).1).trans hg,h5⟩
theorem Al.below {S0:Nat->Prop} {b:Nat} {t:TypeId} {s:Nat} {wr w':World} {l:List D} {V:Value} (h:Al S0 b t s wr l V) (hb:Below wr.heap.size wr w'):Al S0 b t s w' l V:=h.keep hb.size fun i hi=>hb.block i hi
theorem Al.slice {S0:Nat->Prop} {b:Nat} {t:TypeId} {s:Nat} {wr:World} {l:List D} {V:Value} (h:Al S0 b t s wr l V): ∃a c,V=.slice a l.length c:=by
 obtain⟨ns,h1,_⟩:=h;rcases h1.2 with⟨rfl,h0⟩|⟨g,cap,cur,rfl,_⟩
 . exact⟨_,_,by rw[h0]⟩
 . exact⟨_,_,rfl⟩
theorem Al.slice_n {S0:Nat->Prop} {b:Nat} {t:TypeId} {s n:Nat} {wr:World} {l:List D} {V:Value} (h:Al S0 b t s wr l V) (hn:l.length=n): ∃a c,V=.slice a n c:=by
 subst hn;exact h.slice
theorem Al.close {S0:Nat->Prop} {b:Nat} {t:TypeId} {s:Nat} {wr:World} {l:List D} {a:Option Addr} {n c:Nat} (h:Al S0 b t s wr l (.slice a n c)):Ae wr wr.heap.size (.row s l) [.slice a n c]:=by
 obtain⟨ns,h1,h2,h3⟩:=h;have h1':=h1;rcases h1.2 with⟨e,h0⟩|⟨g,cap,cur,e,hbg,hg,hnc,_⟩
 . cases e
   have hl:l= []:=List.eq_nil_of_length_eq_zero h0;subst hl;exact⟨none,0,rfl,h2, [],rfl,.inl rfl⟩
 . cases e
   have hgl:=(Array.getElem?_eq_some_iff.1 hg).1;refine⟨_,_,rfl,h2,ns,h3.now,.inr ⟨g,0,rfl,hgl,fun j u hu=> ?_⟩⟩;have h5:=h1'.cells (g:=g) rfl j u hu
   rwa [A9]at h5
theorem Al.closeIn {S0:Nat->Prop} {b:Nat} {t:TypeId} {s:Nat} {wr:World} {l:List D} {a:Option Addr} {n c:Nat} (h:Al S0 b t s wr l (.slice a n c)):Ag (fun i=>S0 i\/(Value.slice a n c).ownBlock=some i) wr (.row s l) [.slice a n c]:=by
 obtain⟨ns,h1,h2,h3⟩:=h;have h1':=h1;intro w'' k1 k2;have hA:=h3 w'' k1 fun p p1 p2=>k2 p (.inl p1.1) p2;rcases h1.2 with⟨e,h0⟩|⟨g,cap,cur,e,hbg,hg,hnc,_⟩
 . cases e
   have hl:l= []:=List.eq_nil_of_length_eq_zero h0;subst hl;exact⟨none,0,rfl,h2, [],rfl,.inl rfl⟩
 . cases e
   have hgl:=(Array.getElem?_eq_some_iff.1 hg).1;refine⟨_,_,rfl,h2,ns,hA,.inr ⟨g,0,rfl,hgl,fun j u hu=> ?_⟩⟩;have h5:=h1'.cells (g:=g) rfl j u hu;rw[A9]at h5;exact(k2 ⟨g,0+j,none⟩ (.inr rfl) hgl).trans h5
section
variable {P:Program}
theorem Kt {t ty e:TypeId} {i:TypeInfo} {z:Value} {sz bytes:Nat} (ht:P.underlying t=some (.slice e)) (hi:P.info? e=some i) (hz:i.zero=some z) (hsize:i.size=sz) (hby:i.bytes=bytes) (hzs:z.cells.size=sz) (hsz:0<sz)
 {S0:Nat->Prop} {b:Nat} {w:World} {l:List D} {V:Value} (hrow:Al S0 b e sz w l V) (hbw:b<=w.heap.size) {d:D} {cs:List Value} (hd:d.cells=sz) (hx:Ag (fun i=>S0 i/\V.ownBlock≠some i) w d cs)
 {B:Nat} {A:Option Addr} {c:Nat} (hr:A5 w B sz A 1 cs) (h63:l.length+1<=maxLen) (hbytes:(l.length+1)*bytes<=140737488355328):
 ∃V' w6,(Builtin.append_ #[t,t] ty #[V,.slice A 1 c]).run P w=.ok V' w6/\Al S0 b e sz w6 (l++ [d]) V'/\w.grownBy w6 V.ownBlock/\(V'.ownBlock=V.ownBlock\/V'.ownBlock=some w.heap.size):=by
 obtain⟨ns,h1,h2,h3⟩:=hrow;obtain⟨V',w6,hrun,g1,g2,g3⟩:=Ga (P:=P) w b t ty e i z sz bytes ht hi hz hsize hby hzs hsz V l.length ns h1 B A 1 c cs hr hx.now.len.2 h63 hbytes hbw;refine⟨V',w6,hrun,⟨ns++cs,by rw[List.length_append];exact g1, ?_, ?_⟩,g2,g3⟩
 . intro x hx';rcases List.mem_append.1 hx' with hx'|hx'
   . exact h2 x hx'
   . simp only[List.mem_cons,List.not_mem_nil,or_false]at hx';rw[hx'];exact hd
 . have key: ∀p:Addr,V.ownBlock≠some p.block->p.block<w.heap.size->V'.ownBlock≠some p.block:=by
    intro p p1 p2;rcases g3 with e3|e3
    . rw[e3];exact p1
    . rw[e3];intro e4;have:=Option.some.inj e4;omega
   have hag: ∀w'':World,w6.heap.size<=w''.heap.size->(∀p:Addr,S0 p.block/\V'.ownBlock≠some p.block->p.block<w6.heap.size->w''.cell? p=w6.cell? p)-> ∀p:Addr,S0 p.block/\V.ownBlock≠some p.block->p.block<w.heap.size->w''.cell? p=w.cell? p:=by
    intro w'' k1 k2 p p1 p2;rw[k2 p ⟨p1.1,key p p1.2 p2⟩ (Nat.lt_of_lt_of_le p2 g2.size)];exact World.cell?_of_block (g2.block p.block p2 (fun e=>p1.2 e.symm))
   intro w'' k1 k2;have a1:=Af.more (h3 w'' (Nat.le_trans g2.size k1) (hag w'' k1 k2)) g2.size;have a2:=Ae.more (hx w'' (Nat.le_trans g2.size k1) (hag w'' k1 k2)) g2.size;exact a1.snoc a2
theorem P1 {o:Oper} {a:Act} {w:World} {K:Act->World->Prop} {Q:Exit->Act->World->Prop} (s x:Operand) (t:TypeId) {e:TypeId}
 (ho:o.op=.call {callee:=.builtin .append,args:= #[s,x],argTypes:= #[t,t]}) {i:TypeInfo} {z:Value} {sz bytes:Nat} (ht:P.underlying t=some (.slice e)) (hi:P.info? e=some i) (hz:i.zero=some z) (hsize:i.size=sz) (hby:i.bytes=bytes) (hzs:z.cells.size=sz) (hsz:0<sz)
 {S0:Nat->Prop} {b:Nat} {l:List D} {V:Value} (hs:a.eval s=V) (hrow:Al S0 b e sz w l V) (hbw:b<=w.heap.size) {d:D} {cs:List Value} (hd:d.cells=sz) (hf:Ag (fun i=>S0 i/\V.ownBlock≠some i) w d cs)
 {B:Nat} {A:Option Addr} {c:Nat} (hx:a.eval x=.slice A 1 c) (hr:A5 w B sz A 1 cs) (h63:l.length+1<=maxLen) (hbytes:(l.length+1)*bytes<=140737488355328)
 (h: ∀V' w6,Al S0 b e sz w6 (l++ [d]) V'->w.grownBy w6 V.ownBlock->(V'.ownBlock=V.ownBlock\/V'.ownBlock=some w.heap.size)->K (a.put o.dst V') w6):o.wp P a w K Q:=by
 obtain⟨V',w6,hrun,g1,g2,g3⟩:=Kt (ty:=o.type) (c:=c) ht hi hz hsize hby hzs hsz hrow hbw hd hf hr h63 hbytes;unfold Oper.wp execOp;simp only[ho,resolve,invoke,builtin,Sem.run_bind,Sem.run_pure,Result.andThen_ok,List.map_toArray,List.map_cons,List.map_nil,hs,hx,hrun];exact h V' w6 g1 g2 g3
theorem Fe {ops:Array Oper} {rest:List Oper} {o:Oper} {a:Act} {w:World} {Q:Exit->Act->World->Prop} (hgd:o.guard=none) (s x:Operand) (t:TypeId) {e:TypeId}
 (ho:o.op=.call {callee:=.builtin .append,args:= #[s,x],argTypes:= #[t,t]}) {i:TypeInfo} {z:Value} {sz bytes:Nat} (ht:P.underlying t=some (.slice e)) (hi:P.info? e=some i) (hz:i.zero=some z) (hsize:i.size=sz) (hby:i.bytes=bytes) (hzs:z.cells.size=sz) (hsz:0<sz)
 {S0:Nat->Prop} {b:Nat} {l:List D} {V:Value} (hs:a.eval s=V) (hrow:Al S0 b e sz w l V) (hbw:b<=w.heap.size) {d:D} {cs:List Value} (hd:d.cells=sz) (hf:Ag (fun i=>S0 i/\V.ownBlock≠some i) w d cs)
 {B:Nat} {A:Option Addr} {c:Nat} (hx:a.eval x=.slice A 1 c) (hr:A5 w B sz A 1 cs) (h63:l.length+1<=maxLen) (hbytes:(l.length+1)*bytes<=140737488355328)
 (h: ∀V' w6,Al S0 b e sz w6 (l++ [d]) V'->w.grownBy w6 V.ownBlock->(V'.ownBlock=V.ownBlock\/V'.ownBlock=some w.heap.size)->wpList P ops Q rest (a.put o.dst V') w6):wpList P ops Q (o::rest) a w:=
 wpList_plain hgd fun _ hK=>P1 s x t ho ht hi hz hsize hby hzs hsz hs hrow hbw hd hf hx hr h63 hbytes fun V' w6 h2 h3 h4=>hK _ _ (h V' w6 h2 h3 h4)
theorem E8 {ops:Array Oper} {o:Oper} {a:Act} {w:World} {K:Act->World->Prop} {Q:Exit->Act->World->Prop} {E:Prop} (hgd:o.guard=none) (s x:Operand) (t:TypeId) {e:TypeId}
 (ho:o.op=.call {callee:=.builtin .append,args:= #[s,x],argTypes:= #[t,t]}) {i:TypeInfo} {z:Value} {sz bytes:Nat} (ht:P.underlying t=some (.slice e)) (hi:P.info? e=some i) (hz:i.zero=some z) (hsize:i.size=sz) (hby:i.bytes=bytes) (hzs:z.cells.size=sz) (hsz:0<sz)
 {S0:Nat->Prop} {b:Nat} {l:List D} {V:Value} (hs:a.eval s=V) (hrow:Al S0 b e sz w l V) (hbw:b<=w.heap.size) {d:D} {cs:List Value} (hd:d.cells=sz) (hf:Ag (fun i=>S0 i/\V.ownBlock≠some i) w d cs)
 {B:Nat} {A:Option Addr} {c:Nat} (hx:a.eval x=.slice A 1 c) (hr:A5 w B sz A 1 cs) (h63:l.length+1<=maxLen) (hbytes:(l.length+1)*bytes<=140737488355328)
 (h: ∀V' w6,Al S0 b e sz w6 (l++ [d]) V'->w.grownBy w6 V.ownBlock->(V'.ownBlock=V.ownBlock\/V'.ownBlock=some w.heap.size)->K (a.put o.dst V') w6):
 if Region.wanted o (yielded ops a.tmps)=true then Oper.wp P o a w K Q else E:=by
 have hw:Region.wanted o (yielded ops a.tmps)=true:=by simp[Region.wanted,hgd]
 rw[if_pos hw];exact P1 s x t ho ht hi hz hsize hby hzs hsz hs hrow hbw hd hf hx hr h63 hbytes h
end
def Uj {α β:Type} (P:Program) (gf:Nat) (lb:Array Value) (encs:α->β->Array Value) (E:α->β->World->Prop) (xs:List α) (N:World->Prop):Prop:=
 ∀(n l:Nat) (J:List α->World->Prop) (W:World),(∀s A B,J s A->Below A.heap.size A B->J s B)->(∀s A,J s A->N A)->
  (∀pre x rest q A,xs=pre++x::rest->J pre A->E x q A->YieldAt Fence.wide n P l (encs x q) A fun e B=>e=.returned (.bool true)/\J (pre++ [x]) B)->
  J [] W->CallsIn Fence.wide (n+1) P gf (#[.func (.yield l) #[] #[]]++lb) W fun e B=>(∃v,e=.returned v)/\J xs B
theorem Mm {α β:Type} {P:Program} {g:Operand} {ps:Array Tmp} {assign body:Code} {Q:Exit->Act->World->Prop} {a:Act} {w:World} {n:Nat}
 {gf:Nat} {lb:Array Value} (hg:a.eval g=.func (.func gf) #[] lb) (eg: ∀args w,(callFunc gf args).run P w=.ok (.enter gf args) w)
 {encs:α->β->Array Value} {E:α->β->World->Prop} {xs:List α} {N:World->Prop} (hit:Uj P gf lb encs E xs N) (hps: ∀x q,(encs x q).size=ps.size)
 (hEp: ∀x q A k o o',E x q A->A.heap[k]? =some o->o.isCells=false->E x q (A.putObj k o'))
 (I:List α->World->Prop) (hIn: ∀s A B,I s A->Below A.heap.size A B->I s B)
 (hIp: ∀s A k o o',I s A->A.heap[k]? =some o->o.isCells=false->(k=w.heap.size\/k=w.heap.size+1)->I s (A.putObj k o'))
 (hIb: ∀s A,I s A->N A) (h0:I [] w) (a₁:α->β->Act)
 (hassign: ∀(l:Nat) (x:α) (q:β) (W:World) (K:Act->World->Prop),K (a₁ x q) W->
   assign.wpIn (Fence.wide.inRound l) n P (Exit.then K (fun _ _ _=>False)) {tmps:=(ps.zip (encs x q)).foldl (fun t (p,v)=>t.setIfInBounds p v) a.tmps,defers:= []} W)
 (hbody: ∀(l:Nat) (pre:List α) (x:α) (rest:List α) (q:β) (W:World),xs=pre++x::rest->I pre W->E x q W->(∃ds,W.heap[w.heap.size]? =some (.deferred ds))->(∃r,W.heap[w.heap.size+1]? =some (.loop r))->
   body.wpIn (Fence.wide.inRound l) n P (Ow (I (pre++ [x])) w.heap.size W) (a₁ x q) W)
 (hdone: ∀(W:World),I xs W->W.heap[w.heap.size]? =some (.deferred (some []))->Q .normal {a with defers:={target:=.collected w.heap.size,args:= #[]}::a.defers} W):
 (Code.rangeFunc g ps assign body).wpIn Fence.wide (n+1+1) P Q a w:=by
 refine wpIn_rangeFunc ?_;intro fn hfn;have hro:Fence.wide.round=none:=rfl;rw[hro];obtain⟨rec,hrec⟩: ∃rec:LoopState->Option Code->Loop,rec=fun st pe=>{state:=st,pending:=pe,fn,tmps:=a.tmps,params:=ps,assign,body,defers:=w.heap.size}:=⟨_,rfl⟩;obtain⟨W1,hW1⟩: ∃W1,(w.alloc (.deferred (some []))).alloc (.loop (rec .ready none))=W1:=⟨_,rfl⟩;have hL1:W1.heap[w.heap.size+1]? =some (.loop (rec .ready none)):=by
  rw[<-hW1];have:=World.alloc_heap_new (w.alloc (.deferred (some []))) (.loop (rec .ready none));rwa [World.size_alloc]at this
 have hK1:W1.heap[w.heap.size]? =some (.deferred (some [])):=by
  rw[<-hW1];exact(Below.heap_alloc _ _ _ (by simp)).trans (World.alloc_heap_new w _)
 have hI1:I [] W1:=by
  rw[<-hW1];exact hIn _ _ _ h0 (((Below.refl _ w).alloc (Nat.le_refl _) _).alloc (by simp) _)
 refine⟨w.heap.size+1, [{target:=.collected w.heap.size,args:= #[]}],W1,{target:=.fn (.func gf) lb,args:= #[.func (.yield (w.heap.size+1)) #[] #[]]},W1,gf,
  #[.func (.yield (w.heap.size+1)) #[] #[]]++lb,W1, ?_, ?_, ?_, ?_,fun h=>by simp[Fence.wide]at h, ?_⟩
 . rw[<-hW1,hrec];exact run_enterLoop_outer _ _ _ _ _
 . simp only[resolve,hg];simp[go_sem]
 . intro f' _;trivial
 . simp[invoke,go_sem,eg]
 . refine(hit n (w.heap.size+1)
    (fun pre W=>I pre W/\W.heap[w.heap.size+1]? =some (.loop (rec .ready none))/\W.heap[w.heap.size]? =some (.deferred (some [])))
    W1 (fun s A B hs hb=>⟨hIn s A B hs.1 hb,(hb.block _ (Array.getElem?_eq_some_iff.1 hs.2.1).1).trans hs.2.1,(hb.block _ (Array.getElem?_eq_some_iff.1 hs.2.2).1).trans hs.2.2⟩)
    (fun s A hs=>hIb s A hs.1) ?_ ⟨hI1,hL1,hK1⟩).mono ?_
   ·
    rintro pre x rest q W hx ⟨hi,hl,hk⟩ hE;have hlt:w.heap.size+1<W.heap.size:=(Array.getElem?_eq_some_iff.1 hl).1;have hy:=run_yield (P:=P) (args:=encs x q) hl (by rw[hrec];exact hps x q);rw[hrec]at hy;refine⟨fn,_,assign,body,hy,roundIn_of_wpIn trivial (hassign _ x q W _ ⟨_,run_beginRound hl (by rw[hrec]), ?_⟩)⟩;have hl2:(W.putObj (w.heap.size+1) (.loop {rec .ready none with state:=.busy})).heap[w.heap.size+1]? =some (.loop {rec .ready none with state:=.busy}):=World.putObj_heap_same hlt;have hk2:(W.putObj (w.heap.size+1) (.loop {rec .ready none with state:=.busy})).heap[w.heap.size]? =some (.deferred (some [])):=(World.putObj_heap_other (by omega)).trans hk;refine wpIn_mono (hbody _ pre x rest q _ hx (hIp _ _ _ _ _ hi hl rfl (.inr rfl)) (hEp _ _ _ _ _ _ hE hl rfl) ⟨_,hk2⟩ ⟨_,hl2⟩) ?_;rintro e a3 W3 hp
    cases e with
    |normal=>
     obtain⟨h1,h2,hi3⟩:=hp;have hl3:=h2.trans hl2;have hk3:=h1.trans hk2;have hr:=run_endRound (P:=P) none hl3;rw[hrec]at hr;refine⟨_,_,hr,rfl,hIp _ _ _ _ _ hi3 hl3 rfl (.inr rfl), ?_, ?_⟩
     . rw[World.putObj_heap_same (Array.getElem?_eq_some_iff.1 hl3).1,hrec];rfl
     . exact(World.putObj_heap_other (by omega)).trans hk3
    |ret=>exact hp.elim
    |exit id=>exact hp.elim
    |goto t=>exact hp.elim
    |panic ch=>exact hp.elim
    |outgrown=>exact hp.elim
   ·
    rintro e W2 ⟨⟨v,rfl⟩,hi,hl,hk⟩;exact⟨none,_,by have:=run_endLoop (P:=P) hl (by rw[hrec];simp);rw[hrec]at this;exact this,hdone _ (hIp _ _ _ _ _ hi hl rfl (.inr rfl)) ((World.putObj_heap_other (by omega)).trans hk)⟩
theorem Ahs {z:Int} (h0:0<=z) (h1:z<256):((z.toNat.toUInt8).toNat:Int)=z:=by
 have:z.toNat<256:=by omega
 simp[Nat.toUInt8,UInt8.toNat_ofNat',Nat.mod_eq_of_lt this];omega
theorem L4 (w:World) (zs:List Int) (hz: ∀z ∈ zs,0<=z/\z<256) (t:TypeId):
 (convert 132 9 (.slice (some ⟨w.heap.size,0,none⟩) zs.length zs.length)).run Tryz.prog (w.alloc (.cells (zs.map (Value.int .u8)).toArray t))=.ok (.string ⟨(zs.map fun z=>z.toNat.toUInt8).toArray⟩) (w.alloc (.cells (zs.map (Value.int .u8)).toArray t)):=by
 have:=run_convert_bytes_back (P:=Tryz.prog) (w.alloc (.cells (zs.map (Value.int .u8)).toArray t)) 132 9 5 ⟨w.heap.size,0,none⟩ zs.length (zs.map fun z=>z.toNat.toUInt8) Tryz.underlying132 Tryz.underlying5 Tryz.underlying9 (by
  intro j hj;rw[List.length_map]at hj;have hh:(w.alloc (.cells (zs.map (Value.int .u8)).toArray t)).heap[w.heap.size]? =some (.cells (zs.map (Value.int .u8)).toArray t (0,0)):=heap_alloc_new _ _;rw[show(⟨w.heap.size,0,none⟩:Addr).add j=⟨w.heap.size,j,none⟩from by unfold Addr.add;split<;>simp_all];rw[Lib.cell_of_heap hh];simp only[List.getElem?_toArray,List.getElem?_map,List.getElem?_eq_getElem hj,Option.map_some,List.getElem_map];rw[Ahs (hz _ (List.getElem_mem hj)).1 (hz _ (List.getElem_mem hj)).2])
 rwa [List.length_map]at this
set_option maxRecDepth 20000 in
theorem Uf (r:Int) (h0:0<=r) (h1:r<=1114111) (hs: ¬(55296<=r/\r<57344)) (w:World):
 Calls Tryz.prog 145 #[.int .i64 r] w fun e w'=>e=.returned (.string ⟨(Lib.encodeRune r).toArray⟩)/\Below w.heap.size w w':=by
 by_cases c1:r<128
 . have e:Lib.encodeRune r= [r].map fun z=>z.toNat.toUInt8:=by unfold Lib.encodeRune;rw[Lib.encodeRuneZ_one h0 (by omega)]
   have hB:=L4 w [r] (by intro z hz;simp at hz;omega) 5;rw[e];simp only[List.map_cons,List.map_nil,List.length_cons,List.length_nil]at hB ⊢;go_enter Tryz.func145,Tryz.ntmps145;go_wp2;go_ret;exact⟨rfl,(Below.refl _ _).alloc (Nat.le_refl _) _⟩
 by_cases c2:r<2048
 . have e:Lib.encodeRune r= [192+r / 64,128+r % 64].map fun z=>z.toNat.toUInt8:=by unfold Lib.encodeRune;rw[Lib.encodeRuneZ_two (by omega) (by omega)]
   have hB:=L4 w [192+r / 64,128+r % 64] (by intro z hz;simp at hz;omega) 5;rw[e];have b1:0<=r / 64:=by omega
   have b2:r / 64<32:=by omega
   have b3:0<=r % 64:=by omega
   have b4:r % 64<64:=by omega
   simp only[List.map_cons,List.map_nil,List.length_cons,List.length_nil]at hB ⊢;obtain⟨z1,hz1⟩: ∃z,192+r / 64=z:=⟨_,rfl⟩;obtain⟨z2,hz2⟩: ∃z,128+r % 64=z:=⟨_,rfl⟩;have d1:0<=z1/\z1<256:=by omega
   have d2:0<=z2/\z2<256:=by omega
   rw[hz1,hz2]at hB ⊢;go_enter Tryz.func145,Tryz.ntmps145;go_wp2;go_ret;exact⟨rfl,(Below.refl _ _).alloc (Nat.le_refl _) _⟩
 by_cases c3:r<65536
 . have e:Lib.encodeRune r= [224+r / 4096,128+r / 64 % 64,128+r % 64].map fun z=>z.toNat.toUInt8:=by unfold Lib.encodeRune;rw[Lib.encodeRuneZ_three (by omega)]
   have hB:=L4 w [224+r / 4096,128+r / 64 % 64,128+r % 64] (by intro z hz;simp at hz;omega) 5;rw[e];have b1:0<=r / 4096:=by omega
   have b2:r / 4096<16:=by omega
   have b3:0<=r % 64:=by omega
   have b4:r % 64<64:=by omega
   have b5:0<=r / 64:=by omega
   have b6:0<=r / 64 % 64:=by omega
   have b7:r / 64 % 64<64:=by omega
   simp only[List.map_cons,List.map_nil,List.length_cons,List.length_nil]at hB ⊢;obtain⟨z1,hz1⟩: ∃z,224+r / 4096=z:=⟨_,rfl⟩;obtain⟨z2,hz2⟩: ∃z,128+r / 64 % 64=z:=⟨_,rfl⟩;obtain⟨z3,hz3⟩: ∃z,128+r % 64=z:=⟨_,rfl⟩;have d1:0<=z1/\z1<256:=by omega
   have d2:0<=z2/\z2<256:=by omega
   have d3:0<=z3/\z3<256:=by omega
   rw[hz1,hz2,hz3]at hB ⊢;go_enter Tryz.func145,Tryz.ntmps145;go_wp2;go_ret;exact⟨rfl,(Below.refl _ _).alloc (Nat.le_refl _) _⟩
 . have e:Lib.encodeRune r= [240+r / 262144,128+r / 4096 % 64,128+r / 64 % 64,128+r % 64].map fun z=>z.toNat.toUInt8:=by unfold Lib.encodeRune;rw[Lib.encodeRuneZ_four (by omega) (by omega)]
   have hB:=L4 w [240+r / 262144,128+r / 4096 % 64,128+r / 64 % 64,128+r % 64] (by intro z hz;simp at hz;omega) 5;rw[e];have b1:0<=r / 262144:=by omega
   have b2:r / 262144<8:=by omega
   have b3:0<=r % 64:=by omega
   have b4:r % 64<64:=by omega
   have b5:0<=r / 64:=by omega
   have b6:0<=r / 64 % 64:=by omega
   have b7:r / 64 % 64<64:=by omega
   have b8:0<=r / 4096:=by omega
   have b9:0<=r / 4096 % 64:=by omega
   have b10:r / 4096 % 64<64:=by omega
   simp only[List.map_cons,List.map_nil,List.length_cons,List.length_nil]at hB ⊢;obtain⟨z0,hz0⟩: ∃z,240+r / 262144=z:=⟨_,rfl⟩;obtain⟨z1,hz1⟩: ∃z,128+r / 4096 % 64=z:=⟨_,rfl⟩;obtain⟨z2,hz2⟩: ∃z,128+r / 64 % 64=z:=⟨_,rfl⟩;obtain⟨z3,hz3⟩: ∃z,128+r % 64=z:=⟨_,rfl⟩;have d0:0<=z0/\z0<256:=by omega
   have d1:0<=z1/\z1<256:=by omega
   have d2:0<=z2/\z2<256:=by omega
   have d3:0<=z3/\z3<256:=by omega
   rw[hz0,hz1,hz2,hz3]at hB ⊢;go_enter Tryz.func145,Tryz.ntmps145;go_wp2;go_ret;exact⟨rfl,(Below.refl _ _).alloc (Nat.le_refl _) _⟩
end Go.Proofs.YtnkmhaachfgaoaaGreatDoor
