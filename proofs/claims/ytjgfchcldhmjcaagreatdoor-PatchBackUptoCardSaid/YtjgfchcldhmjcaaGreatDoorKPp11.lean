/- Parts: utf.Runes: the iterator over a text's runes and their places, by rounds that may end it. Condition: a text shorter than 10^9. -/
import Derived.Shelf.Spec.SlicesInsertGrow
import Derived.LaidEqlPtr
import Derived.Test.YtjgfchcldhmjcaaGreatDoorKPp9
import Derived.Test.YtjgfchcldhmjcaaGreatDoorKPp10
set_option maxHeartbeats 20000000
set_option maxRecDepth 100000
namespace Go.Proofs.YtjgfchcldhmjcaaGreatDoor
abbrev Sn (l:List ByteArray):Prop:=l.Pairwise fun a b=>Er a b=true
theorem Aki {o:List (ByteArray×Val)} (h:Dg o):Sn (o.map (·.1)):=List.pairwise_map.2 h
theorem W9: ∀(b:List ByteArray) {a:List ByteArray},Sn a->Sn b->(∀x ∈ a,x ∈ b)->a.Sublist b
 | [],a,_,_,h=>by
   cases a with
   |nil=>exact .slnil
   |cons x r=>exact absurd (h x (by simp)) (by simp)
 |y::b, [],_,_,_=>List.nil_sublist _
 |y::b,x::a,ha,hb,h=>by
  obtain⟨c,j⟩:=List.pairwise_cons.1 ha;obtain⟨k,d⟩:=List.pairwise_cons.1 hb;by_cases e:x=y
  . subst e;refine(W9 b j d fun z g=> ?_).cons_cons x;rcases List.mem_cons.1 (h z (List.mem_cons_of_mem _ g))with rfl|f
    . have:=c z g;rw[Ds]at this
      cases this
    . exact f
  . have p:x ∈ b:=by
     rcases List.mem_cons.1 (h x (by simp))with i|f
     . exact absurd i e
     . exact f
    have l:=k x p;refine(W9 b ha d fun z g=> ?_).cons y;rcases List.mem_cons.1 (h z g)with i|f
    . subst i;rcases List.mem_cons.1 g with o|m
      . exact absurd o.symm e
      . have n:=Dq l (c z m);rw[Ds]at n
        cases n
    . exact f
theorem Ahr {a b:List ByteArray} (c:Sn a) (d:Sn b) (h: ∀x ∈ a,x ∈ b) (e:a.length=b.length):a=b:=(W9 b c d h).eq_of_length e
theorem P9 {o:List (ByteArray×Val)} {names:List ByteArray} (b:Dg o) (a:Sn names):
 (names.length=o.length/\ ∀x ∈ names,x ∈ o.map (·.1)) ↔ o.map (·.1)=names:=by
 constructor
 . rintro⟨hl,hm⟩;exact(Ahr a (Aki b) hm (by rw[List.length_map];exact hl)).symm
 . rintro rfl;exact⟨by rw[List.length_map],fun x c=>c⟩
def Av (k:ByteArray):List (ByteArray×Val)->Option Val
 | []=>none
 |p::r=>if p.1=k then some p.2 else Av k r
theorem Ia {k:ByteArray}: ∀{o:List (ByteArray×Val)} {v:Val},Av k o=some v->(k,v) ∈ o
 | [],_,h=>by cases h
 |p::r,v,h=>by
  unfold Av at h
  split at h
  . rename_i e
    cases h
    subst e;exact List.mem_cons_self ..
  . exact List.mem_cons_of_mem _ (Ia h)
theorem N4 {k:ByteArray}: ∀{o:List (ByteArray×Val)},Av k o=none ↔ k ∉ o.map (·.1)
 | []=>by simp[Av]
 |p::r=>by
  unfold Av;by_cases e:p.1=k
  . rw[if_pos e];simp[e]
  . rw[if_neg e,N4 (o:=r)];simp[Ne.symm e]
end Go.Proofs.YtjgfchcldhmjcaaGreatDoor
namespace Go.Proofs.YtjgfchcldhmjcaaGreatDoor
open Go Go.RowKit
theorem Xx {w:World} {B n c:Nat} {l:List (ByteArray×Val)} {a:Option Addr} (h:Ag w B (.row 7 (dO l)) [.slice a n c]) {q:Nat} {key:ByteArray} {f:Int} {b':Bool} {j:Int} {k:ByteArray} {l':List Val} {o':List (ByteArray×Val)} (x:l[q]? =some (key,.mk f b' j k l' o')):
 ∃g b,a=some ⟨g,b,none⟩/\g<B/\ ∃m o p oc,Ag w B (dV (.mk f b' j k l' o')) [.int .i64 f,.bool b',.int .i64 j,.string k,.slice m l'.length o,.slice p o'.length oc]/\
  w.cell? ⟨g,b+q*7,none⟩=some (.string key)/\w.cell? ⟨g,b+q*7+1,none⟩=some (.int .i64 f)/\w.cell? ⟨g,b+q*7+2,none⟩=some (.bool b')/\
  w.cell? ⟨g,b+q*7+3,none⟩=some (.int .i64 j)/\w.cell? ⟨g,b+q*7+4,none⟩=some (.string k)/\w.cell? ⟨g,b+q*7+5,none⟩=some (.slice m l'.length o)/\w.cell? ⟨g,b+q*7+6,none⟩=some (.slice p o'.length oc):=by
 obtain⟨g,b,u,v,cs,r,_,e⟩:=h.at_ (i:=q) (d:=dP (key,.mk f b' j k l' o')) (by rw[Dx,List.getElem?_map,x];rfl);unfold dP at r;simp only[Ag]at r;obtain⟨_,_,rfl,⟨rfl,_⟩,y,_,rfl,s,rfl⟩:=r;have t:=Be _ _ s;simp only[Ab]at t;obtain⟨m,o,p,oc,rfl,_,_⟩:=t;exact⟨g,b,u,v,m,o,p,oc,s,e 0 _ rfl,e 1 _ rfl,e 2 _ rfl,e 3 _ rfl,e 4 _ rfl,e 5 _ rfl,e 6 _ rfl⟩
theorem Ae0 {w:World} {B:Nat} {c:Int} {b':Bool} {d:Int} {f:ByteArray} {l':List Val} {o':List (ByteArray×Val)} {g i j k l a:Value} (h:Ag w B (dV (.mk c b' d f l' o')) [g,i,j,k,l,a]):Ag w B (.row 7 (dO o')) [a]:=by
 have m:Ah w B [.leaf (.int .i64 c),.leaf (.bool b'),.leaf (.int .i64 d),.leaf (.string f),.row 6 (dL l'),.row 7 (dO o')] [g,i,j,k,l,a]:=by
  unfold dV Ag at h;exact h
 obtain⟨c4,c5,e,_,_,_,_,n,b⟩:=Ah.six.1 m;have o:=n.len.1;have p:=b.len.1
 match c4,o,c5,p,e with
 | [u],_, [v],_,e=>
   simp only[List.cons_append,List.nil_append,List.cons.injEq,and_true]at e;obtain⟨_,_,_,_,_,rfl⟩:=e;exact b
theorem Z6 {w:World} {B:Nat} {c:Int} {b':Bool} {d:Int} {f:ByteArray} {l':List Val} {o':List (ByteArray×Val)} {g i j k a l:Value} (h:Ag w B (dV (.mk c b' d f l' o')) [g,i,j,k,a,l]):Ag w B (.row 6 (dL l')) [a]:=by
 have m:Ah w B [.leaf (.int .i64 c),.leaf (.bool b'),.leaf (.int .i64 d),.leaf (.string f),.row 6 (dL l'),.row 7 (dO o')] [g,i,j,k,a,l]:=by
  unfold dV Ag at h;exact h
 obtain⟨c4,c5,e,_,_,_,_,b,n⟩:=Ah.six.1 m;have o:=b.len.1;have p:=n.len.1
 match c4,o,c5,p,e with
 | [u],_, [v],_,e=>
   simp only[List.cons_append,List.nil_append,List.cons.injEq,and_true]at e;obtain⟨_,_,_,_,rfl,_⟩:=e;exact b
theorem Amj {w:World} {B n c:Nat} {l:List Val} {a:Option Addr} (h:Ag w B (.row 6 (dL l)) [.slice a n c]) {q:Nat} {f:Int} {b':Bool} {j:Int} {k:ByteArray} {l':List Val} {o':List (ByteArray×Val)} (v:l[q]? =some (.mk f b' j k l' o')):
 ∃g b,a=some ⟨g,b,none⟩/\g<B/\ ∃m o p oc,Ag w B (dV (.mk f b' j k l' o')) [.int .i64 f,.bool b',.int .i64 j,.string k,.slice m l'.length o,.slice p o'.length oc]/\
  w.cell? ⟨g,b+q*6,none⟩=some (.int .i64 f)/\w.cell? ⟨g,b+q*6+1,none⟩=some (.bool b')/\
  w.cell? ⟨g,b+q*6+2,none⟩=some (.int .i64 j)/\w.cell? ⟨g,b+q*6+3,none⟩=some (.string k)/\w.cell? ⟨g,b+q*6+4,none⟩=some (.slice m l'.length o)/\w.cell? ⟨g,b+q*6+5,none⟩=some (.slice p o'.length oc):=by
 obtain⟨g,b,t,u,cs,r,_,e⟩:=h.at_ (i:=q) (d:=dV (.mk f b' j k l' o')) (by rw[Gz,List.getElem?_map,v];rfl);have s:=Be _ _ r;simp only[Ab]at s;obtain⟨m,o,p,oc,rfl,_,_⟩:=s;exact⟨g,b,t,u,m,o,p,oc,r,e 0 _ rfl,e 1 _ rfl,e 2 _ rfl,e 3 _ rfl,e 4 _ rfl,e 5 _ rfl⟩
theorem Ah5 {key:ByteArray} {v:Val} (w:World) (B:Nat) (cs:List Value) (h:Ag w B (dP (key,v)) cs):cs[0]? =some (.string key):=by
 unfold dP at h;simp only[Ag]at h;obtain⟨_,_,rfl,⟨rfl,_⟩,_⟩:=h;rfl
theorem Amf {key:ByteArray} {v:Val} {w:World} {B:Nat} {u:Value} {cs:List Value} (h:Ag w B (dP (key,v)) (u::cs)):Ag w B (dV v) cs:=by
 unfold dP at h;simp only[Ag]at h;obtain⟨_,_,e,⟨rfl,_⟩,b,_,rfl,a,rfl⟩:=h;simp only[List.cons_append,List.nil_append,List.append_nil,List.cons.injEq]at e;rw[e.2];exact a
theorem N5 {k:ByteArray}: ∀{o:List (ByteArray×Val)} {q:Nat} {p:ByteArray×Val},(∀x ∈ o.take q,x.1≠k)->o[q]? =some p->p.1=k->Av k o=some p.2
 | [],q,p,_,h,_=>by simp at h
 |x::r,0,p,_,h,e=>by
  simp only[List.getElem?_cons_zero,Option.some.injEq]at h;subst h;unfold Av;rw[if_pos e]
 |x::r,q+1,p,ht,h,e=>by
  unfold Av;rw[if_neg (ht x (by simp))];exact N5 (fun y a=>ht y (by rw[List.take_succ_cons];exact List.mem_cons_of_mem _ a)) (by simpa using h) e
theorem Vw {k:ByteArray} {o:List (ByteArray×Val)} (h: ∀x ∈ o,x.1≠k):Av k o=none:=by
 rw[N4];intro a;obtain⟨p,b,e⟩:=List.mem_map.1 a;exact h p b e
mutual
def Df (S:Nat->Prop) (w:World):Nd->Nat->Prop
 | .leaf es,b=>S b/\b<w.heap.size/\ ∃a c,Ai S w (.row 7 (dO es)) [.slice a es.length c]/\
    Ap w b Yv #[.slice a es.length c,.slice none 0 0,.int .i64 0,.int .i64 es.length,.string (Cu (.leaf es)),.string (Ez (.leaf es)),.bool false]
 | .inner ks,b=>S b/\b<w.heap.size/\ ∃bs a c,Ai S w (.row 1 (Im bs)) [.slice a ks.length c]/\
    Ap w b Yv #[.slice none 0 0,.slice a ks.length c,.int .i64 (Tf (.inner ks)),.int .i64 (B9 ks).length,.string (Cu (.inner ks)),.string (Ez (.inner ks)),.bool false]/\Ax S w ks bs
def Ax (S:Nat->Prop) (w:World):List Nd->List Nat->Prop
 | [],bs=>bs= []
 |k::r,bs=> ∃b t,bs=b::t/\Df S w k b/\Ax S w r t
end
theorem Ax.imp' {S T:Nat->Prop} {w w':World}: ∀{ks:List Nd},(∀k ∈ ks,∀b,Df S w k b->Df T w' k b)-> ∀{bs},Ax S w ks bs->Ax T w' ks bs
 | [],_,_,h=>by
   simp only[Ax]at h ⊢;exact h
 |k::r,ih,bs,h=>by
  simp only[Ax]at h ⊢;obtain⟨b,t,e,a,c⟩:=h;exact⟨b,t,e,ih k (by simp) b a,Ax.imp' (fun x d=>ih x (by simp[d])) c⟩
theorem Df.imp {S T:Nat->Prop} {w w':World} (d: ∀i,i<w'.heap.size->S i->T i) (o:w.heap.size<=w'.heap.size) (g: ∀i,S i->i<w.heap.size->w'.heap[i]? =w.heap[i]?): ∀{n:Nd} {b:Nat},Df S w n b->Df T w' n b:=by
 have m: ∀p:Addr,S p.block->p.block<w.heap.size->w'.cell? p=w.cell? p:=fun p u v=>World.cell?_of_block (g p.block u v);intro n;refine Nd.ind (p:=fun n=> ∀{b:Nat},Df S w n b->Df T w' n b) ?_ ?_ n
 . intro x b h;simp only[Df]at h ⊢;obtain⟨h0,l,a,c,e,f⟩:=h;exact⟨d b (by omega) h0,by omega,a,c,(e.later o m).mono d,(g b h0 l).trans f⟩
 . intro ks t b h;simp only[Df]at h ⊢;obtain⟨h0,l,q,a,c,e,f,r⟩:=h;exact⟨d b (by omega) h0,by omega,q,a,c,(e.later o m).mono d,(g b h0 l).trans f,Ax.imp' (fun k j _ s=>t k j s) r⟩
theorem Az.of_in {S:Nat->Prop} {w:World}: ∀{ks:List Nd},(∀k ∈ ks,∀b,Df S w k b->Ct w w.heap.size k b)-> ∀{bs},Ax S w ks bs->Az w w.heap.size ks bs
 | [],_,_,h=>by
   simp only[Ax,Az]at h ⊢;exact h
 |k::r,ih,bs,h=>by
  simp only[Ax,Az]at h ⊢;obtain⟨b,t,e,a,c⟩:=h;exact⟨b,t,e,ih k (by simp) b a,Az.of_in (fun x d=>ih x (by simp[d])) c⟩
theorem Df.now {S:Nat->Prop} {w:World}: ∀{n:Nd} {b:Nat},Df S w n b->Ct w w.heap.size n b:=by
 intro n;refine Nd.ind (p:=fun n=> ∀{b:Nat},Df S w n b->Ct w w.heap.size n b) ?_ ?_ n
 . intro o b h;simp only[Df]at h;simp only[Ct];obtain⟨_,f,a,c,d,e⟩:=h;exact⟨f,a,c,d.now,e⟩
 . intro ks m b h;simp only[Df]at h;simp only[Ct];obtain⟨_,f,g,a,c,d,e,i⟩:=h;exact⟨f,g,a,c,d.now,e,Az.of_in (fun k l _ j=>m k l j) i⟩
theorem Ax.now {S:Nat->Prop} {w:World} {ks:List Nd} {a:List Nat} (h:Ax S w ks a):Az w w.heap.size ks a:=Az.of_in (fun _ _ _ b=>b.now) h
theorem Ax.of_at {B:Nat} {w:World}: ∀{ks:List Nd},(∀k ∈ ks,∀b,Ct w B k b->Df (fun i=>i<B) w k b)-> ∀{bs},Az w B ks bs->Ax (fun i=>i<B) w ks bs
 | [],_,_,h=>by
   simp only[Ax,Az]at h ⊢;exact h
 |k::r,ih,bs,h=>by
  simp only[Ax,Az]at h ⊢;obtain⟨b,t,e,a,c⟩:=h;exact⟨b,t,e,ih k (by simp) b a,Ax.of_at (fun x d=>ih x (by simp[d])) c⟩
theorem Df.of_old {B:Nat} {w:World} {n:Nd} {b:Nat} (h:Ct w B n b) (g:B<=w.heap.size):Df (fun i=>i<B) w n b:=by
 revert b
 refine Nd.ind (p:=fun n=> ∀{b:Nat},Ct w B n b->Df (fun i=>i<B) w n b) ?_ ?_ n
 . intro r b h;simp only[Ct]at h;simp only[Df];obtain⟨f,a,c,d,e⟩:=h;exact⟨f,by omega,a,c,Ai.of_old d g (Below.refl _ _),e⟩
 . intro ks q b h;simp only[Ct]at h;simp only[Df];obtain⟨f,j,a,c,d,e,l⟩:=h;exact⟨f,by omega,j,a,c,Ai.of_old d g (Below.refl _ _),e,Ax.of_at (fun k o _ m=>q k o m) l⟩
section
variable {S T:Nat->Prop} {w w':World} {n:Nd} {b:Nat}
theorem Ax.imp {ks:List Nd} {a:List Nat} (b: ∀i,i<w'.heap.size->S i->T i) (d:w.heap.size<=w'.heap.size) (c: ∀i,S i->i<w.heap.size->w'.heap[i]? =w.heap[i]?) (h:Ax S w ks a):Ax T w' ks a:=Ax.imp' (fun _ _ _ h=>h.imp b d c) h
theorem Ax.of_old {B:Nat} {ks:List Nd} {a:List Nat} (h:Az w B ks a) (b:B<=w.heap.size):Ax (fun i=>i<B) w ks a:=Ax.of_at (fun _ _ _ c=>Df.of_old c b) h
theorem Df.mono (h:Df S w n b) (a: ∀i,i<w.heap.size->S i->T i):Df T w n b:=h.imp a (Nat.le_refl _) fun _ _ _=>rfl
theorem Ax.mono {ks:List Nd} {b:List Nat} (h:Ax S w ks b) (a: ∀i,i<w.heap.size->S i->T i):Ax T w ks b:=h.imp a (Nat.le_refl _) fun _ _ _=>rfl
theorem Df.later (h:Df S w n b) (c:w.heap.size<=w'.heap.size) (a: ∀i,S i->i<w.heap.size->w'.heap[i]? =w.heap[i]?):Df S w' n b:=h.imp (fun _ _ h=>h) c a
theorem Ax.later {ks:List Nd} {a:List Nat} (h:Ax S w ks a) (c:w.heap.size<=w'.heap.size) (b: ∀i,S i->i<w.heap.size->w'.heap[i]? =w.heap[i]?):Ax S w' ks a:=h.imp (fun _ _ h=>h) c b
theorem Df.below (h:Df S w n b) (a:Below w.heap.size w w'):Df S w' n b:=h.later a.size fun i _ c=>a.block i c
theorem Ax.below {ks:List Nd} {a:List Nat} (h:Ax S w ks a) (b:Below w.heap.size w w'):Ax S w' ks a:=h.later b.size fun i _ c=>b.block i c
theorem Ax.at_: ∀{ks:List Nd} {bs:List Nat},Ax S w ks bs-> ∀{i:Nat} {k:Nd},ks[i]? =some k-> ∃b,bs[i]? =some b/\Df S w k b
 | [],bs,h,i,k,hi=>by simp at hi
 |x::r,bs,h,i,k,hi=>by
  simp only[Ax]at h;obtain⟨b,t,rfl,a,c⟩:=h
  cases i with
  |zero=>
   simp only[List.getElem?_cons_zero,Option.some.injEq]at hi;subst hi;exact⟨b,rfl,a⟩
  |succ i=>
   simp only[List.getElem?_cons_succ]at hi ⊢;exact Ax.at_ c hi
theorem Ax.app: ∀{ks ks':List Nd} {bs bs':List Nat},Ax S w ks bs->Ax S w ks' bs'->Ax S w (ks++ks') (bs++bs')
 | [],ks',bs,bs',h,h'=>by
   simp only[Ax]at h;subst h;exact h'
 |k::r,ks',bs,bs',h,h'=>by
  simp only[Ax]at h;obtain⟨b,t,rfl,a,c⟩:=h;simp only[List.cons_append,Ax];exact⟨b,t++bs',rfl,a,Ax.app c h'⟩
theorem Ax.one (h:Df S w n b):Ax S w [n] [b]:=by
 simp only[Ax];exact⟨b, [],rfl,h,rfl⟩
theorem Ax.split: ∀{ks:List Nd} {bs:List Nat},Ax S w ks bs-> ∀(i:Nat),Ax S w (ks.take i) (bs.take i)/\Ax S w (ks.drop i) (bs.drop i)
 | [],bs,h,i=>by
   simp only[Ax]at h;subst h;simp[Ax]
 |k::r,bs,h,0=>by
  simp only[List.take_zero,List.drop_zero];exact⟨by simp only[Ax],h⟩
 |k::r,bs,h,i+1=>by
  simp only[Ax]at h;obtain⟨b,t,rfl,c,d⟩:=h;obtain⟨a1,a⟩:=Ax.split d i;simp only[List.take_succ_cons,List.drop_succ_cons,Ax];exact⟨⟨b,t.take i,rfl,c,a1⟩,a⟩
theorem Ax.set: ∀{ks:List Nd} {bs:List Nat},Ax S w ks bs-> ∀(i:Nat) {n:Nd} {b:Nat},Df S w n b->Ax S w (ks.set i n) (bs.set i b)
 | [],bs,h,i,n,b,_=>by
   simp only[Ax]at h;subst h;simp[Ax]
 |x::r,bs,h,0,n,b,hk=>by
  simp only[Ax]at h;obtain⟨b',t,rfl,c,a⟩:=h;simp only[tk5,Ax];exact⟨b,t,rfl,hk,a⟩
 |x::r,bs,h,i+1,n,b,hk=>by
  simp only[Ax]at h;obtain⟨b',t,rfl,c,a⟩:=h;simp only[tk6,Ax];exact⟨b',t.set i b,rfl,c,Ax.set a i hk⟩
end
theorem Bk.lit {S0:Nat->Prop} {b:Nat} {t:TypeId} {w:World} {d:D} {cs:Array Value} (f:b<=w.heap.size) (g:d.cells=cs.size) (h:Ai (fun i=>S0 i/\i≠w.heap.size) (w.alloc (.cells cs t)) d cs.toList):
 Bk S0 b t cs.size (w.alloc (.cells cs t)) [d] (.slice (some ⟨w.heap.size,0,none⟩) 1 1):=by
 refine⟨cs.toList,⟨by simp,.inr ⟨w.heap.size,1,cs,rfl,f,heap_alloc_new w _,Nat.le_refl _,by unfold maxLen;omega,by simp, ?_⟩⟩,fun x c=> ?_,Cd.one (h.mono fun i _ a=>⟨a.1,fun e=>a.2 (Option.some.inj (e:some w.heap.size=some i)).symm⟩)⟩
 . simp only[List.length_cons,List.length_nil,Nat.zero_add,Nat.one_mul];rw[<-Array.length_toList,List.take_length]
 . simp only[List.mem_cons,List.not_mem_nil,or_false]at c;rw[c];exact g
section
variable {P:Program}
end
end Go.Proofs.YtjgfchcldhmjcaaGreatDoor
namespace Go.Proofs.YtjgfchcldhmjcaaGreatDoor
open Go Go.RowKit Go.Lib
end Go.Proofs.YtjgfchcldhmjcaaGreatDoor
namespace Go.Proofs.YtjgfchcldhmjcaaGreatDoor
theorem Sx {c:Type} (p:c->Bool): ∀{l:List c},(l.Pairwise fun a b=>p a=true->p b=true)->l.countP (fun a=> !p a)=l.findIdx p
 | [],_=>by simp
 |x::r,h=>by
  obtain⟨d,f⟩:=List.pairwise_cons.1 h;rw[List.countP_cons,List.findIdx_cons,Sx p f]
  cases hx:p x with
  |true=>
   have:r.findIdx p=0\/r= []:=by
    cases r with
    |nil=>exact .inr rfl
    |cons y s=>exact .inl (by rw[List.findIdx_cons,d y (by simp) hx];rfl)
   rcases this with e|e
   . simp[e]
   . subst e;simp
  |false=>simp
theorem Us {b:Type} (l:List b) (f:b->Bool):(List.range l.length).countP (fun i=>(l[i]?.map f).getD false)=l.countP f:=by
 have h:(List.range l.length).map (fun i=>(l[i]?.map f).getD false)=l.map f:=by
  apply List.ext_getElem
  . simp
  . intro i e a;simp at e a;simp[a]
 have c:(List.range l.length).countP (fun i=>(l[i]?.map f).getD false)=((List.range l.length).map (fun i=>(l[i]?.map f).getD false)).countP id:=by rw[List.countP_map];rfl
 have d:l.countP f=(l.map f).countP id:=by rw[List.countP_map];rfl
 rw[c,d,h]
theorem Ael (k:ByteArray): ∀l:List Cq,F9 k l=l.findIdx fun e=> !Er e.1 k
 | []=>by simp[F9]
 |(a,x)::r=>by
  rw[List.findIdx_cons];simp only[F9];by_cases h:Er a k=true
  . rw[if_pos h,h,Ael k r];simp
  . rw[if_neg h];have:Er a k=false:=by simpa using h
    rw[this];simp
theorem Ahq {k:ByteArray} {l:List Cq} (h:Dg l):l.Pairwise fun a b=>(!Er a.1 k)=true->(!Er b.1 k)=true:=by
 refine h.imp fun {a b} c d=> ?_
 cases hb:Er b.1 k with
 |false=>rfl
 |true=>rw[Dq c hb]at d;exact d
theorem Ah4 {k:ByteArray} {l:List Cq} (h:Dg l):(List.range l.length).countP (fun i=>(l[i]?.map fun e=>Er e.1 k).getD false)=F9 k l:=by
 rw[Us,Ael,<-Sx _ (Ahq h)]
 congr 1
 funext e
 simp
theorem Xs {k a:ByteArray} {x:Val} {r:List Cq} (h:Er a k=true):E6 k ((a,x)::r)=E6 k r/\F9 k ((a,x)::r)=F9 k r+1:=by
 have e:F9 k ((a,x)::r)=F9 k r+1:=by simp only[F9,if_pos h]
 refine⟨?_,e⟩;unfold E6;rw[e,List.getElem?_cons_succ]
theorem T1 (k:ByteArray) (v:Val): ∀l:List Cq,Dz k v l=if E6 k l=true then l.set (F9 k l) (k,v)else l.take (F9 k l)++ [(k,v)]++l.drop (F9 k l)
 | []=>by simp[Dz,F9,E6]
 |(a,x)::r=>by
  simp only[Dz];by_cases h:Er a k=true
  . obtain⟨d,f⟩:=Xs (x:=x) (r:=r) h;rw[if_pos h,T1 k v r,d,f];by_cases b:E6 k r=true
    . rw[if_pos b,if_pos b,tk6]
    . rw[if_neg b,if_neg b];simp
  . have e:F9 k ((a,x)::r)=0:=by simp only[F9,if_neg h]
    have g:E6 k ((a,x)::r)=(a.toList==k.toList):=by unfold E6;rw[e];rfl
    rw[if_neg h,e,g];by_cases c:a=k
    . subst c;rw[if_pos rfl,if_pos (by simp)];rfl
    . rw[if_neg c,if_neg fun e=>c (toList_inj (by simpa using e))];rfl
theorem Nx (k:ByteArray) (v:Val): ∀l:List Cq,Af (Dz k v l)<=Af l+Af [(k,v)]
 | []=>by simp[Dz,Af]
 |(a,x)::r=>by
  have b:=Nx k v r;simp only[Dz]
  split
  . simp only[Af]at b ⊢;omega
  . split
    . simp only[Af]at b ⊢;omega
    . simp only[Af]at b ⊢;omega
end Go.Proofs.YtjgfchcldhmjcaaGreatDoor
namespace Go.Proofs.YtjgfchcldhmjcaaGreatDoor
open Go Go.RowKit
section
variable {P:Program} {md:Region.Mode} {ops:Array Oper} {Q:Exit->Act->World->Prop} {S:World->Prop}
theorem tkN (i:Nat) {oi:Oper} {fuel:Nat} {b:Array Bool} {a d:Act} {w:World} (f:S w) (h:wpAnyH P md ops Q S fuel (b.setIfInBounds i true) d w)
 (j:ops[i]? =some oi:=by rfl) (m:Region.noSelect ops=true:=by kernel_rfl) (g:Region.free md ops b i=true:=by kernel_rfl) (l:(Region.ready md ops b).contains i=true:=by kernel_rfl)
 (e: ∀c a w,Q (.panic c) (a.put oi.dst undef) w->Q (.panic c) a w:=by exact fun _ _ _ h=>h) (n:Region.wanted oi (yielded ops a.tmps)=false:=by kernel_rfl)
 (k:a.put oi.dst undef=d:=by((try simp only[Act.put,tk1,tk2,tk3,tk4,tk5,tk6]);exact rfl)):wpAnyH P md ops Q S (fuel+1) b a w:=
 wpAnyH_take j m g l e (Or.inr ⟨n,rfl⟩) f (k▸h)
end
theorem Zd (v:Val) (cs:List Value) (w:World) (u:Cj w) (j:Ab w w.heap.size v cs) (x:v.bulk<=1000000000) (g:okV v):
 Calls Tryz.prog 131 #[.agg cs.toArray] w fun e w'=>e=.returned (.int .i64 (Bd v).length)/\Below w.heap.size w w':=by
 have d:=j;obtain⟨k,b,n,t,l,o⟩:=v;simp only[Ab]at d;obtain⟨q,r,s,oc,rfl,_,_⟩:=d;obtain⟨w1,c⟩: ∃w1,w.alloc (.cells (Eb k b n t q l.length r s o.length oc).toArray 42)=w1:=⟨_,rfl⟩;have a:Below w.heap.size w w1:=c▸(Below.refl _ _).alloc (Nat.le_refl _) _;have h:w1.heap.size=w.heap.size+1:=by rw[<-c];simp
 have p:=Pt k b n t l o q s r oc false w1 (u.below a) (Ab.more a.size _ _ (j.below a)) x g;have z:=qz (fun w=>Mz k b n t q s l.length r o.length oc w);rw[h]at p;generalize Bd (.mk k b n t l o)=L at*
 have A:=J8;obtain⟨y,i⟩:=hid2 p a;subst c;clear p j x g u h a;go_enter Tryz.func131,Tryz.ntmps131;go_wp2_with (first|(go_at_call 53;refine(z.out _).mono ?_;rintro e G ⟨rfl,rfl⟩)|(go_at_fn (Nc k);refine(y.out).mono ?_;rintro e w4 ⟨rfl,B,C⟩;have m:=B;obtain⟨E,F,f⟩:=m;have D:w4.cell? ⟨w.heap.size+1,3,none⟩=some (.int .i64 (L.length:Int)):=by(rw[Lib.cell_of_heap f.2.1];rfl)));go_ret;exact⟨rfl,i.out.trans (C.mono (by simp))⟩
theorem Rw (r:Int):(Lib.encodeRune r).length<=4:=by
 unfold Lib.encodeRune Lib.encodeRuneZ
 repeat' split
 all_goals simp
theorem Ot (s:ByteArray) (w:World) (hs:s.size<=1000000000) (hv:A6 s=true):
 Calls Tryz.prog 127 #[.string s] w fun e w'=>e=.returned (.tuple #[.string ⟨(B8 s).toArray⟩,.int .i64 0])/\Below w.heap.size w w':=by
 have cV:=Ou s w hs;rw[hv]at cV;have HR:=qz (W6 s w hs);have ao:(Bw s).length<=s.size:=F7 _ _ _;have HS:Hid (∀x ∈ Bw s,D0 x.2):=Fw _ _ _;unfold B8;generalize Bw s=L at*
 have HV:=qz cV;clear cV hv;go_enter Tryz.func127,Tryz.ntmps127;go_wp2_with (fail);(with_reducible refine HV.out.mono ?_);rintro e w' ⟨rfl,rfl⟩;clear HV;go_wp2_with (fail);(with_reducible refine HR.out.mono ?_);rintro e w1 ⟨⟨v1,v2,rfl,z⟩,Q⟩;clear HR;obtain⟨la,lc,rfl,D⟩: ∃la lc,v1=.slice la L.length lc/\Hid (∀(k:Nat) (x:Nat×Nat),L[k]? =some x-> ∃g A,la=some ⟨g,A,none⟩/\g<w1.heap.size/\w1.cell? ⟨g,A+k,none⟩=some (.int .i64 x.2)):=by
  rcases z.2 with⟨hv,hz⟩|⟨g,cap,cur,rfl,hbg,hg,hnc,hcm,hcs,htake⟩
  . have hL:L= []:=List.length_eq_zero_iff.1 hz;subst hL;exact⟨none,0,hv,fun k x G=>by simp at G⟩
  . refine⟨some ⟨g,0,none⟩,cap,rfl,fun k x G=>⟨g,0,rfl,(Array.getElem?_eq_some_iff.1 hg).1, ?_⟩⟩;have:=z.cells (g:=g) rfl k (.int .i64 x.2) (by simp[G]);rw[Go.WideShapes.add_plain,Nat.zero_add]at this;rw[Nat.zero_add];exact this
 have E:=qz Q;have H0:Hid ((⟨#[34]⟩:ByteArray).data.toList=34::Aj (L.take 0)):=by show _=_;simp[Aj]
 clear z Q;go_wp2_with (fail);go_loopw [4,8] (fun o i wr=> ∃(T:ByteArray) (k:Nat),o=.string T/\i=.int .i64 k/\k<=L.length/\Hid (T.data.toList=34::Aj (L.take k))/\Hid (Below w1.heap.size w1 wr)) (fun _ i _=>L.length - (intOf i).toNat)
 case atStart=>exact⟨_,0,rfl,rfl,Nat.zero_le _,H0,Below.refl _ _⟩
 case round=>
  obtain⟨T,k,rfl,rfl,hk,P,a⟩:=hrel;clear H0;obtain⟨wo,rfl⟩: ∃wo:World,wo=wr:=⟨_,rfl⟩;have al:T.size<=6*L.length+1:=by
   have h1:=congrArg List.length P.out;have h2:=G5 (L.take k);have h3:(L.take k).length<=L.length:=by rw[List.length_take];omega
   have h4:T.data.toList.length=T.size:=by rw[Array.length_toList];rfl
   simp only[List.length_cons]at h1;omega
  by_cases ab:k<L.length
  . obtain⟨⟨p,r⟩,G⟩: ∃v,L[k]? =some v:=⟨_,List.getElem?_eq_getElem ab⟩;obtain⟨g,A,rfl,hg,R⟩:=D.out k _ G;have hc:wo.cell? ⟨g,A+k,none⟩=some (.int .i64 r):=(a.out.cell (p:=⟨g,A+k,none⟩) hg).trans R;have K:=HS.out _ (List.mem_of_getElem? G);unfold D0 at K;simp only at K;obtain⟨ak,F⟩:=K;have Y:L.take (k+1)=L.take k++ [(p,r)]:=by rw[List.take_add_one,G];rfl
    have b:Hid (34::Aj (L.take (k+1))=T.data.toList++Ao r):=by
     show _=_;rw[Y,P.out];simp[Aj]
    have aa:=qz F;have N:Hid (Below w1.heap.size w1 wo):=a;have O:Hid (Qq r 0):=fun i hi=>by omega
    clear P Y G R F a;go_wp2_with (fail);go_loopw [10] (fun j wr=> ∃n:Nat,j=.int .i64 n/\n<=8/\Hid (Qq r n)/\Hid (Below w1.heap.size w1 wr)) (fun j _=>8 - (intOf j).toNat)
    case atStart=>exact⟨0,rfl,by omega,O,N⟩
    case round=>
     obtain⟨n,rfl,hn,l,a⟩:=hrel;clear O N;rcases(by omega:n=2\/(n≠2/\n<8)\/n=8)with rfl|⟨ac,I⟩|rfl
     . have y:=qz (l.out.step (.inl rfl));clear l b hc;go_wp2_with (fail);go_roundw
       case rel=>exact⟨2+1,rfl,by omega,y,a⟩
       case measure=>simp[intOf]
     . obtain⟨c,B⟩: ∃c,Gy[n]? =some c:=⟨_,List.getElem?_eq_getElem I⟩;have C:Gy.getD n 0=c:=by simp[List.getD,B]
       have Z:=qz (Qr n c B wr);have aj:((n:Int)==2)=false:=by simp;omega
       by_cases t:c=(r:Int)
       . have V:Ao r= [92,Gg.getD n 0]:=by
          have:=U5 ⟨n,I⟩ ac;simp only[C,t,Int.toNat_natCast]at this;exact this
         rw[V]at b;subst t;have u:=fun w=>Ali n I w;generalize Gg.getD n 0=c8 at b u;have f:Hid ((T++⟨#[92]⟩++⟨#[c8]⟩).data.toList=34::Aj (L.take (k+1))):=by
          show _=_;rw[b.out,ByteArray.data_append,Array.toList_append,ByteArray.data_append,Array.toList_append];simp
         clear l b B C hc V;go_wp2_with (fail);(with_reducible refine Z.out.mono ?_);rintro e w2 ⟨rfl,h⟩;have d:=qz (a.out.trans (h.mono a.out.size));clear h a Z;have an:=u w2;clear u;go_wp2;go_roundw
         case rel=>exact⟨_,k+1,rfl,by go_num,by omega,f,d⟩
         case measure=>simp only[intOf];omega
       . have y:=qz (l.out.step (.inr (by rw[C];exact t)));have ah:(c==(r:Int))=false:=by simpa using t
         have ai:(c != (r:Int))=true:=by simpa using t
         clear l b B C hc t;go_wp2_with (fail);(with_reducible refine Z.out.mono ?_);rintro e w2 ⟨rfl,h⟩;have d:=qz (a.out.trans (h.mono a.out.size));clear h a Z;go_wp2;go_roundw
         case rel=>exact⟨n+1,by go_num,by omega,y,d⟩
         case measure=>simp only[intOf];omega
     . have V:=Ya l.out;rw[V]at b;clear l hc V;by_cases M:r<32
       . rw[if_pos M]at b;have f:Hid ((T++⟨#[92,117,48,48]⟩++⟨#[Ld (r / 16)]⟩++⟨#[Ld (r % 16)]⟩).data.toList=34::Aj (L.take (k+1))):=by
          show _=_;rw[b.out,ByteArray.data_append,Array.toList_append,ByteArray.data_append,Array.toList_append,ByteArray.data_append,Array.toList_append];simp
         have af:=fun w=>Ae5 (r / 16) (by omega) w;have ag:=fun w=>Ae5 (r % 16) (by omega) w;have W:(r:Int) / 16=((r / 16:Nat):Int):=by omega
         have U:(r:Int) % 16=((r % 16:Nat):Int):=by omega
         have J:(r:Int).tdiv 16=((r / 16:Nat):Int):=by rw[Int.tdiv_eq_ediv_of_nonneg (by omega)];omega
         have H:(r:Int).tmod 16=((r % 16:Nat):Int):=by rw[Int.tmod_eq_emod_of_nonneg (by omega)];omega
         have aq:r / 16<2:=by omega
         have ap:r % 16<16:=by omega
         generalize Ld (r / 16)=e1 at*
         generalize Ld (r % 16)=e2 at*
         generalize r / 16=q at*
         generalize r % 16=m at*
         have ad:IntKind.i64.wrap ((q:Int)+1)=(q:Int)+1:=IntWalk.i64_in _ (by omega);have ae:IntKind.i64.wrap ((m:Int)+1)=(m:Int)+1:=IntWalk.i64_in _ (by omega);clear b;go_wp2_with (fail);go_quiet (fail);have d:=qz (Bf a.out nq);clear af ag W U J H ad ae a;go_wp2;go_roundw
         case rel=>exact⟨_,k+1,rfl,by go_num,by omega,f,d⟩
         case measure=>simp only[intOf];omega
       . rw[if_neg M]at b;have cB:=qz (Ky r (by omega) (by omega) (by have:=aa.out;omega) wr);have S:(Lib.encodeRune (r:Int)).length<=4:=Rw r;obtain⟨X,hX⟩: ∃X:ByteArray,(⟨(Lib.encodeRune (r:Int)).toArray⟩:ByteArray)=X:=⟨_,rfl⟩;have am:X.size<=4:=by rw[<-hX];exact S
         have f:Hid ((T++X).data.toList=34::Aj (L.take (k+1))):=by
          show _=_;rw[b.out,ByteArray.data_append,Array.toList_append,<-hX]
         rw[hX]at cB;clear b S hX;go_wp2_with (fail);(with_reducible refine cB.out.mono ?_);rintro e w2 ⟨rfl,h⟩;have d:=qz (a.out.trans (h.mono a.out.size));clear h a cB;go_wp2;go_roundw
         case rel=>exact⟨_,k+1,rfl,by go_num,by omega,f,d⟩
         case measure=>simp only[intOf];omega
  . obtain rfl:k=L.length:=by omega
    have f:=P.out;rw[List.take_length]at f;have hE:(⟨(34::(Aj L++ [34])).toArray⟩:ByteArray)=T++⟨#[34]⟩:=by
     apply ByteArray.ext;rw[ByteArray.data_append];apply Array.ext';rw[Array.toList_append,f];simp
    have HE:=qz hE;clear P f hE;go_wp2;go_ret2;exact⟨by rw[HE.out];rfl,E.out.trans (a.out.mono E.out.size)⟩
def Ab0 (v:Val):Prop:= ∀(cs:List Value) (w:World) (d:Int),Ab w w.heap.size v cs->v.bulk<=100000000->A0 v d=0->I9 v->
    Calls Tryz.prog 69 #[.agg cs.toArray] w fun e w'=>e=.returned (.string ⟨(Bd v).toArray⟩)/\Below w.heap.size w w'
theorem Ze {T:ByteArray} {l:List UInt8} (h:T.data.toList=l):(⟨l.toArray⟩:ByteArray)=T:=by
 subst h;rfl
theorem Ex (a b:ByteArray):(a++b).data.toList=a.data.toList++b.data.toList:=by
 rw[ByteArray.data_append,Array.toList_append]
theorem Adt (b:Bool) (n:Int) (t:ByteArray) (l:List Val) (Y: ∀v ∈ l,Ab0 v) (y Q:Option Addr) (oc D:Nat) (w:World) (d:Int) (hl:l= []\/ ∃g m,y=some ⟨g,m,none⟩/\g<w.heap.size/\Aq w w.heap.size l g m)
 (hb:A5 l<=100000000) (hm:Dn l d=0) (hi:Na l) (aa:(Cz l true).length<=700000000):
 Calls Tryz.prog 69 #[.agg #[.int .i64 5,.bool b,.int .i64 n,.string t,.slice y l.length D,.slice Q 0 oc]] w fun e w'=>e=.returned (.string ⟨(91::(Cz l true++ [93])).toArray⟩)/\Below w.heap.size w w':=by
 have ae:=C9 l;have W:Hid ((⟨#[91]⟩:ByteArray).data.toList=91::Cz (l.take 0) true):=by show _=_;simp[Cz]
 have HI:=qz Y;have HM:=qz (Kq hm);have Hi:=qz (fun x C=>O5 hi (x:=x) C);clear Y hm hi;go_enter Tryz.func69,Tryz.ntmps69;go_wp2_with (fail);have E:Hid (Below w.heap.size w (w.alloc (.cells #[.int .i64 5,.bool b,.int .i64 n,.string t,.slice y l.length D,.slice Q 0 oc] 42))):=(Below.refl _ _).alloc (Nat.le_refl _) _;have F:Hid ((w.alloc (.cells #[.int .i64 5,.bool b,.int .i64 n,.string t,.slice y l.length D,.slice Q 0 oc] 42)).heap[w.heap.size]? =some (.cells #[.int .i64 5,.bool b,.int .i64 n,.string t,.slice y l.length D,.slice Q 0 oc] 42 (0,0))):=heap_alloc_new _ _;go_loopw [5,6] (fun o i wr=> ∃(T:ByteArray) (k:Nat),o=.string T/\i=.int .i64 k/\k<=l.length/\Hid (T.data.toList=91::Cz (l.take k) true)/\Hid (Below w.heap.size w wr)/\Hid (wr.heap[w.heap.size]? =some (.cells #[.int .i64 5,.bool b,.int .i64 n,.string t,.slice y l.length D,.slice Q 0 oc] 42 (0,0)))) (fun _ i _=>l.length - (intOf i).toNat)
 case atStart=>exact⟨_,0,rfl,rfl,Nat.zero_le _,W,E,F⟩
 case round=>
  obtain⟨T,k,rfl,rfl,hk,B,f,j⟩:=hrel;clear W E F;have ab:T.size<=700000001:=by
   have U:=congrArg List.length B.out;have h2:=Mj l k true;have h3:=Qk T;simp only[List.length_cons]at U;omega
  have b4:wr.cell? ⟨w.heap.size,4,none⟩=some (.slice y l.length D):=by rw[Lib.cell_of_heap j.out];rfl
  have hz:w.heap.size<wr.heap.size:=(Array.getElem?_eq_some_iff.1 j.out).1;by_cases M:k<l.length
  . obtain⟨g,m,rfl,hg,Z⟩: ∃g m,y=some ⟨g,m,none⟩/\g<w.heap.size/\Aq w w.heap.size l g m:=by
     rcases hl with rfl|h
     . simp at M
     . exact h
    obtain⟨x,C⟩: ∃v,l[k]? =some v:=⟨_,List.getElem?_eq_getElem M⟩;have a:x ∈ l:=List.mem_of_getElem? C;have N:=HM.out x a;have K:=Hi.out x a;have V:=Dp a;have O:l.take (k+1)=l.take k++ [x]:=by rw[List.take_add_one,C];rfl
    have u:=Oi x (l.take k) true;rw[<-O]at u;have J:(Bd x).length<=700000000:=by
     have U:=congrArg List.length u;have h2:=Mj l (k+1) true;simp only[List.length_append]at U;omega
    have G:=HI.out x a;obtain⟨X,R⟩: ∃X:ByteArray,(⟨(Bd x).toArray⟩:ByteArray)=X:=⟨_,rfl⟩;have ac:X.size<=700000000:=by rw[<-R,M5];exact J
    have I:X.data.toList=Bd x:=by rw[<-R]
    obtain⟨k',b',n',t',l',o'⟩:=x;obtain⟨af,ag,ah,ai,P,c0,c1,c2,c3,c4,c5⟩:=(Z.below hg f.out).six C;have S:=G _ wr d (Ab.more (by omega) _ _ P) (by omega) N K;rw[R]at S;have s:Hid (T.data.toList++((if true&&(l.take k).isEmpty then []else [44])++X.data.toList)=91::Cz (l.take (k+1)) true):=by
     show _=_;rw[u,B.out,I];rfl
    have H:=qz S;clear S R I J u O N K V a C Z hg G P;have A:k≠0->(l.take k).isEmpty=false:=by
     intro h;rw[List.isEmpty_eq_false_iff];intro e;have:=congrArg List.length e;rw[List.length_take,List.length_nil]at this;omega
    by_cases L:k=0
    . subst L;simp only[Nat.zero_mul,Nat.add_zero]at c0 c1 c2 c3 c4 c5;have p:Hid ((T++X).data.toList=91::Cz (l.take (0+1)) true):=by
       have:=s.out;show _=_;rw[Ex,<-this];simp
      clear s B A;go_wp2_with (fail);(with_reducible refine H.out.mono ?_);rintro e w4 ⟨rfl,c⟩;have q:=qz (f.out.trans (c.mono (by omega)));have r:=qz ((c.block _ hz).trans j.out);clear c f j;go_wp2;go_roundw
      case rel=>exact⟨_,0+1,rfl,by go_num,by omega,p,q,r⟩
      case measure=>simp only[intOf];omega
    . have p:Hid ((T++⟨#[44]⟩++X).data.toList=91::Cz (l.take (k+1)) true):=by
       have:=s.out;show _=_;rw[Ex,Ex,<-this,A L];simp
      clear s B A;have ad:0<k:=by omega
      go_wp2_with (fail);(with_reducible refine H.out.mono ?_);rintro e w4 ⟨rfl,c⟩;have q:=qz (f.out.trans (c.mono (by omega)));have r:=qz ((c.block _ hz).trans j.out);clear c f j;go_wp2;go_roundw
      case rel=>exact⟨_,k+1,rfl,by go_num,by omega,p,q,r⟩
      case measure=>simp only[intOf];omega
  . obtain rfl:k=l.length:=by omega
    have z:=B.out;rw[List.take_length]at z;have HE:Hid ((⟨(91::(Cz l true++ [93])).toArray⟩:ByteArray)=T++⟨#[93]⟩):=Ze (by rw[Ex,z];simp);clear B z hl;go_wp2;go_ret;exact⟨by rw[HE.out];rfl,f.out⟩
theorem Agu (b:Bool) (n:Int) (t:ByteArray) (l:List (ByteArray×Val)) (IH: ∀m ∈ l,Ab0 m.2) (la L:Option Addr) (oc lc:Nat) (w:World) (d:Int) (hl:l= []\/ ∃g f,L=some ⟨g,f,none⟩/\g<w.heap.size/\An w w.heap.size l g f)
 (hb:Af l<=100000000) (ah:Option ByteArray) (hm:Di l ah d=0) (hi:I6 l) (al:(C0 l true).length<=700000000):
 Calls Tryz.prog 69 #[.agg #[.int .i64 6,.bool b,.int .i64 n,.string t,.slice la 0 lc,.slice L l.length oc]] w fun e w'=>e=.returned (.string ⟨(123::(C0 l true++ [125])).toArray⟩)/\Below w.heap.size w w':=by
 have aq:=B5 l;have H0:Hid ((⟨#[123]⟩:ByteArray).data.toList=123::C0 (l.take 0) true):=by show _=_;simp[C0]
 have HI:=qz IH;have HM:=qz (Tn hm);have Hi:=qz (fun x U=>Aes hi (x:=x) U);clear IH hm hi;go_enter Tryz.func69,Tryz.ntmps69;go_wp2_with (fail);have Y:Hid (Below w.heap.size w (w.alloc (.cells #[.int .i64 6,.bool b,.int .i64 n,.string t,.slice la 0 lc,.slice L l.length oc] 42))):=(Below.refl _ _).alloc (Nat.le_refl _) _;have Z:Hid ((w.alloc (.cells #[.int .i64 6,.bool b,.int .i64 n,.string t,.slice la 0 lc,.slice L l.length oc] 42)).heap[w.heap.size]? =some (.cells #[.int .i64 6,.bool b,.int .i64 n,.string t,.slice la 0 lc,.slice L l.length oc] 42 (0,0))):=heap_alloc_new _ _;go_loopw [7,8] (fun o i wr=> ∃(T:ByteArray) (k:Nat),o=.string T/\i=.int .i64 k/\k<=l.length/\Hid (T.data.toList=123::C0 (l.take k) true)/\Hid (Below w.heap.size w wr)/\Hid (wr.heap[w.heap.size]? =some (.cells #[.int .i64 6,.bool b,.int .i64 n,.string t,.slice la 0 lc,.slice L l.length oc] 42 (0,0)))) (fun _ i _=>l.length - (intOf i).toNat)
 case atStart=>exact⟨_,0,rfl,rfl,Nat.zero_le _,H0,Y,Z⟩
 case round=>
  obtain⟨T,k,rfl,rfl,hk,W,B,C⟩:=hrel;clear H0 Y Z;have an:T.size<=700000001:=by
   have h1:=congrArg List.length W.out;have h2:=Mk l k true;have h3:=Qk T;simp only[List.length_cons]at h1;omega
  have b4:wr.cell? ⟨w.heap.size,5,none⟩=some (.slice L l.length oc):=by rw[Lib.cell_of_heap C.out];rfl
  have hz:w.heap.size<wr.heap.size:=(Array.getElem?_eq_some_iff.1 C.out).1;by_cases af:k<l.length
  . obtain⟨g,f,rfl,hg,hL⟩: ∃g f,L=some ⟨g,f,none⟩/\g<w.heap.size/\An w w.heap.size l g f:=by
     rcases hl with rfl|h
     . simp at af
     . exact h
    obtain⟨⟨key,x⟩,U⟩: ∃v,l[k]? =some v:=⟨_,List.getElem?_eq_getElem af⟩;have p:(key,x) ∈ l:=List.mem_of_getElem? U;obtain⟨P,R⟩:=HM.out _ p;have O:=Hi.out _ p;have ad:=C4 p;simp only at P R O ad;have ag:l.take (k+1)=l.take k++ [(key,x)]:=by rw[List.take_add_one,U];rfl
    have G:=Oj (key,x) (l.take k) true;rw[<-ag]at G;simp only[Po]at G;have N:(Bd x).length<=700000000/\(B8 key).length<=700000000:=by
     have h1:=congrArg List.length G;have h2:=Mk l (k+1) true;simp only[List.length_append,List.length_cons]at h1;omega
    have aa:=HI.out _ p;obtain⟨X,hX⟩: ∃X:ByteArray,(⟨(Bd x).toArray⟩:ByteArray)=X:=⟨_,rfl⟩;have ao:X.size<=700000000:=by rw[<-hX,M5];exact N.1
    have ac:X.data.toList=Bd x:=by rw[<-hX]
    obtain⟨Q,hQ⟩: ∃Q:ByteArray,(⟨(B8 key).toArray⟩:ByteArray)=Q:=⟨_,rfl⟩;have am:Q.size<=700000000:=by rw[<-hQ,M5];exact N.2
    have ab:Q.data.toList=B8 key:=by rw[<-hQ]
    have c0:=((hL.below hg B.out).at_ U).1;simp only at c0;have CQ:=Ot key wr (by omega) P;rw[hQ]at CQ;have K:Hid (T.data.toList++((if true&&(l.take k).isEmpty then []else [44])++(Q.data.toList++(58::X.data.toList)))=123::C0 (l.take (k+1)) true):=by
     show _=_;rw[G,W.out,ac,ab];rfl
    have J:Hid (∀w',Below w.heap.size w w'-> ∀(k':Int) (b':Bool) (n':Int) (t':ByteArray) (l':List Val) (o':List (ByteArray×Val)) (u z:Option Addr) (y A:Nat),x=.mk k' b' n' t' l' o'->Ab w' w.heap.size x (Eb k' b' n' t' u l'.length y z o'.length A)->
     Calls Tryz.prog 69 #[.agg #[.int .i64 k',.bool b',.int .i64 n',.string t',.slice u l'.length y,.slice z o'.length A]] w' fun e ak=>e=.returned (.string X)/\Below w'.heap.size w' ak):=by
     intro w' aj k' b' n' t' l' o' u z y A _ s;have:=aa _ w' d (Ab.more aj.size _ _ s) (show x.bulk<=100000000 from by omega) R O;rw[hX]at this;exact this
    have I:=qz CQ;have HL:Hid (∀w',Below w.heap.size w w'->An w' w.heap.size l g f):=fun w' h=>hL.below hg h;have H:=qz U;clear CQ hX ac hQ ab N G ag R O ad p U hL hg aa P;have S:k≠0->(l.take k).isEmpty=false:=by
     intro h;rw[List.isEmpty_eq_false_iff];intro e;have:=congrArg List.length e;rw[List.length_take,List.length_nil]at this;omega
    obtain⟨k',b',n',t',l',o'⟩:=x;by_cases ae:k=0
    . subst ae;simp only[Nat.zero_mul,Nat.add_zero]at c0;have D:Hid ((T++Q++⟨#[58]⟩++X).data.toList=123::C0 (l.take (0+1)) true):=by
       have:=K.out;show _=_;rw[Ex,Ex,Ex,<-this];simp
      clear K W S;go_wp2_with (fail);(with_reducible refine I.out.mono ?_);rintro e w4 ⟨rfl,q⟩;have a:=qz (B.out.trans (q.mono (by omega)));have c:=qz ((q.block _ hz).trans C.out);have V:w.heap.size<w4.heap.size:=(Array.getElem?_eq_some_iff.1 c.out).1;have ai:w4.cell? ⟨w.heap.size,5,none⟩=some (.slice (some ⟨g,f,none⟩) l.length oc):=by rw[Lib.cell_of_heap c.out];rfl
      obtain⟨u,y,z,A,s,_,e1,e2,e3,e4,e5,e6⟩:=(HL.out _ a.out).seven H.out;simp only[Nat.zero_mul,Nat.add_zero]at e1 e2 e3 e4 e5 e6;have j:=qz (J.out _ a.out _ _ _ _ _ _ u z y A rfl s);clear q B C b4 c0 s J HL H I;go_wp2_with (fail);(with_reducible refine j.out.mono ?_);rintro e w5 ⟨rfl,r⟩;have E:=qz (a.out.trans (r.mono (by omega)));have F:=qz ((r.block _ V).trans c.out);clear r a c j;go_wp2;go_roundw
      case rel=>exact⟨_,0+1,rfl,by go_num,by omega,D,E,F⟩
      case measure=>simp only[intOf];omega
    . have D:Hid ((T++⟨#[44]⟩++Q++⟨#[58]⟩++X).data.toList=123::C0 (l.take (k+1)) true):=by
       have:=K.out;show _=_;rw[Ex,Ex,Ex,Ex,<-this,S ae];simp
      clear K W S;have ap:0<k:=by omega
      go_wp2_with (fail);(with_reducible refine I.out.mono ?_);rintro e w4 ⟨rfl,q⟩;have a:=qz (B.out.trans (q.mono (by omega)));have c:=qz ((q.block _ hz).trans C.out);have V:w.heap.size<w4.heap.size:=(Array.getElem?_eq_some_iff.1 c.out).1;have ai:w4.cell? ⟨w.heap.size,5,none⟩=some (.slice (some ⟨g,f,none⟩) l.length oc):=by rw[Lib.cell_of_heap c.out];rfl
      obtain⟨u,y,z,A,s,_,e1,e2,e3,e4,e5,e6⟩:=(HL.out _ a.out).seven H.out;have j:=qz (J.out _ a.out _ _ _ _ _ _ u z y A rfl s);clear q B C b4 c0 s J HL H I;go_wp2_with (fail);(with_reducible refine j.out.mono ?_);rintro e w5 ⟨rfl,r⟩;have E:=qz (a.out.trans (r.mono (by omega)));have F:=qz ((r.block _ V).trans c.out);clear r a c j;go_wp2;go_roundw
      case rel=>exact⟨_,k+1,rfl,by go_num,by omega,D,E,F⟩
      case measure=>simp only[intOf];omega
  . obtain rfl:k=l.length:=by omega
    have M:=W.out;rw[List.take_length]at M;have HE:Hid ((⟨(123::(C0 l true++ [125])).toArray⟩:ByteArray)=T++⟨#[125]⟩):=Ze (by rw[Ex,M];simp);clear W M hl;go_wp2;go_ret;exact⟨by rw[HE.out];rfl,B.out⟩
theorem Aba (k:Int) (b:Bool) (n:Int) (t:ByteArray) (l:List Val) (o:List (ByteArray×Val)) (j p:Option Addr) (oc m:Nat) (w:World) (q:k≠5) (r:k≠6) (g:k=1\/k=2\/k=3\/k=4) (h:t.size<=1000000000) (i:A6 t=true)
 (c: -9223372036854775808<=n) (d:n<=9223372036854775807):
 Calls Tryz.prog 69 #[.agg #[.int .i64 k,.bool b,.int .i64 n,.string t,.slice j l.length m,.slice p o.length oc]] w fun e w'=>e=.returned (.string ⟨(Bd (.mk k b n t l o)).toArray⟩)/\Below w.heap.size w w':=by
 simp only[Bd];rcases g with rfl|rfl|rfl|rfl
 . rw[if_neg (by decide),if_neg (by decide),if_neg (by decide),if_neg (by decide),if_neg (by decide)];go_enter Tryz.func69,Tryz.ntmps69;go_wp2;go_ret;exact⟨rfl,(Below.refl _ _).alloc (Nat.le_refl _) _⟩
 . rw[if_pos rfl]
   cases b
   . go_enter Tryz.func69,Tryz.ntmps69;go_wp2;go_ret;exact⟨rfl,(Below.refl _ _).alloc (Nat.le_refl _) _⟩
   . go_enter Tryz.func69,Tryz.ntmps69;go_wp2;go_ret;exact⟨rfl,(Below.refl _ _).alloc (Nat.le_refl _) _⟩
 . rw[if_neg (by decide),if_pos rfl];have a:=qz (fun w=>qz (Xg n c d w));go_enter Tryz.func69,Tryz.ntmps69;go_wp2_with (fail);(with_reducible refine(a.out _).out.mono ?_);rintro e w' ⟨rfl,rfl⟩;go_wp2;go_ret;exact⟨rfl,(Below.refl _ _).alloc (Nat.le_refl _) _⟩
 . rw[if_neg (by decide),if_neg (by decide),if_pos rfl];have a:=qz (fun w=>qz (Ot t w h i));go_enter Tryz.func69,Tryz.ntmps69;go_wp2_with (fail);(with_reducible refine(a.out _).out.mono ?_);rintro e w' ⟨rfl,f⟩;go_wp2;go_ret;exact⟨rfl,((Below.refl _ _).alloc (Nat.le_refl _) _).trans (f.mono (by simp))⟩
theorem Aa9: ∀v,Ab0 v:=by
 refine Val.ind ?_;intro k b n t l o f g cs w d D F E e;have r:=X6 _ d E e;have c:=Jq _ r;obtain⟨a,_,u,m,p⟩:=Fm E;simp only[Ab]at D;obtain⟨x,y,z,oc,rfl,j,q⟩:=D;simp only[I9]at e;simp only[Val.bulk]at F c;by_cases h:k=5
 . subst h;have I:o= []:=by
    have:o.length=0:=by
     unfold Fo at a;simp at a;simp[a]
    exact List.length_eq_zero_iff.1 this
   subst I;have s:Bd (.mk 5 b n t l [])=91::(Cz l true++ [93]):=by simp[Bd]
   rw[s]at c ⊢;simp only[List.length_cons,List.length_append,List.length_nil]at c;exact Adt b n t l f x z oc y w (d+1) j (by omega) m e.2.1 (by omega)
 by_cases i:k=6
 . subst i;have H:l= []:=by
    have:l.length=0:=by
     unfold Fo at a;simp at a;simp[a]
    exact List.length_eq_zero_iff.1 this
   subst H;have s:Bd (.mk 6 b n t [] o)=123::(C0 o true++ [125]):=by simp[Bd]
   rw[s]at c ⊢;simp only[List.length_cons,List.length_append,List.length_nil]at c;exact Agu b n t o g x z oc y w (d+1) q (by omega) none p e.2.2 (by omega)
 have G:k=1\/k=2\/k=3\/k=4:=by
  unfold Fo at a;by_cases a1:k=1
  . exact .inl a1
  by_cases A:k=2
  . exact .inr (.inl A)
  by_cases B:k=3
  . exact .inr (.inr (.inl B))
  by_cases C:k=4
  . exact .inr (.inr (.inr C))
  simp[a1,A,B,C,h,i]at a
 exact Aba k b n t l o x z oc y w h i G (by omega) u e.1.1 e.1.2
theorem Z8 (k:Int) (b:Bool) (n:Int) (t:ByteArray) (o:List (ByteArray×Val)) (la U:Option Addr) (lc oc:Nat) (d:Int) (w:World) (g N:Nat) (S:o= []\/(U=some ⟨g,N,none⟩/\g<w.heap.size/\An w w.heap.size o g N))
 (hb:Af o+t.size<=1000000000) (h0:0<=d) (am:d<=64) (IH: ∀m ∈ o,Ahi m.2) (Q:Fo k b n t 0 o.length=false) (Z:A6 t=true):
 Calls Tryz.prog 124 #[.agg #[.int .i64 k,.bool b,.int .i64 n,.string t,.slice la 0 lc,.slice U o.length oc],.int .i64 d] w fun e w'=>e=.returned (.int .i64 (Di o none (d+1)))/\Below w.heap.size w w':=by
 have al:o.length<=1000000000:=by have:=B5 o;omega
 have aj: ¬(64<d):=by omega
 have H:Hid (Di (o.drop 0) (Fv o 0) (d+1)=Di o none (d+1)):=by rw[List.drop_zero];exact rfl
 go_enter Tryz.func124,Tryz.ntmps124;go_wp2_with (first|(go_at_call 191;refine(Il Q _).mono ?_;rintro e w1 ⟨rfl,D⟩;obtain⟨ae,af⟩:=Fy D;have ab:=D.size;simp only[World.size_alloc]at ab;have O:Below w.heap.size w w1:=((Below.refl _ _).alloc (Nat.le_refl _) _).trans (D.mono (by simp));have u:w1.heap[w.heap.size]? =some (.cells #[.int .i64 k,.bool b,.int .i64 n,.string t,.slice la 0 lc,.slice U o.length oc] 42 (0,0)):=(D.block _ (by simp)).trans (heap_alloc_new _ _))|(go_at_call 66;refine(Cm Z _ (by omega)).mono ?_;rintro e w2 ⟨rfl,rfl⟩));clear D Q ae af ab;go_loopw [5] (fun i wx=>i=.int .i64 0/\wx=w1) (fun _ _=>0)
 case atStart=>exact⟨rfl,rfl⟩
 case round=>
  obtain⟨rfl,rfl⟩:=hrel;have W:w.heap.size<wr.heap.size:=(Array.getElem?_eq_some_iff.1 u).1;have ac:wr.cell? ⟨w.heap.size,4,none⟩=some (.slice la 0 lc):=by rw[Lib.cell_of_heap u];rfl
  go_wp2;clear ac W
  rename World=>w1
  go_loopw [7,8] (fun q i wr=> ∃j:Nat,∃lk:ByteArray,j<=o.length/\i=.int .i64 j/\q=.string lk/\(0<j->Fv o j=some lk)/\Hid (Di (o.drop j) (Fv o j) (d+1)=Di o none (d+1))/\Below w.heap.size w wr/\wr.heap[w.heap.size]? =some (.cells #[.int .i64 k,.bool b,.int .i64 n,.string t,.slice la 0 lc,.slice U o.length oc] 42 (0,0))) (fun _ i _=>o.length - (intOf i).toNat)
  case atStart=>exact⟨0,ByteArray.empty,Nat.zero_le _,rfl,rfl,fun h=>absurd h (by omega),H,O,u⟩
  case round=>
   obtain⟨j,q,hj,rfl,rfl,I,hm,x,s⟩:=hrel;clear H O u;have L:w.heap.size<wr.heap.size:=(Array.getElem?_eq_some_iff.1 s).1;have b5:wr.cell? ⟨w.heap.size,5,none⟩=some (.slice U o.length oc):=by rw[Lib.cell_of_heap s];rfl
   have hz:=x.size;by_cases X:j<o.length
   . obtain⟨rfl,hg,hL⟩:U=some ⟨g,N,none⟩/\g<w.heap.size/\An w w.heap.size o g N:=by
      rcases S with rfl|h
      . simp at X
      . exact h
     obtain⟨⟨key,v⟩,Y⟩: ∃v,o[j]? =some v:=⟨_,List.getElem?_eq_getElem X⟩;have E:o.drop j=(key,v)::o.drop (j+1):=Cr Y;have J:(key,v) ∈ o:=List.mem_of_getElem? Y;have ad:=C4 J;simp only at ad;have K:=qz (IH (key,v) J);have y:Fv o (j+1)=some key:=by simp[Fv,Y]
     have B:=qz y;have a:=hm.out;rw[E]at a;simp only[Di,Ob,<-y]at a;clear hm E J IH y;have V:=hL.below hg x;have an:g<wr.heap.size:=by omega
     obtain⟨k',b',n',t',l',o'⟩:=v;obtain⟨ap,aq,ar,au,M,c0,c1,c2,c3,c4,c5,c6⟩:=V.seven Y;clear hL V Y S;by_cases c:A6 key=true
     . rw[c]at a;simp only[if_true]at a;by_cases R:0<j
       . rw[I R]at a;simp only at a;have ag:decide (0<j)=true:=by simpa using R
         clear I;by_cases G:leB key q=true
         . rw[if_pos G]at a;unfold leB at G;have A:=qz a;clear a;go_wp2_with (go_at_call 66;refine(Cm c _ (by omega)).mono ?_;rintro e wv ⟨rfl,rfl⟩);go_ret;exact⟨by rw[<-A.out];rfl,x⟩
         . rw[if_neg G]at a;have ak:(Op.bytesLess key.toList q.toList||key.toList==q.toList)=false:=by simpa[leB]using G
           clear G;obtain⟨m,z⟩: ∃m,A0 (.mk k' b' n' t' l' o') (d+1)=m:=⟨_,rfl⟩;rw[z]at a;have C:=qz z;clear z;by_cases r:m=0
           . rw[if_pos r]at a;subst r;have A:=qz a;clear a;go_wp2_with (first|(go_at_call 66;refine(Cm c _ (by omega)).mono ?_;rintro e wv ⟨rfl,rfl⟩)|(go_at_call 124;refine(K.out _ (d+1) _ (Ab.more (by omega) _ _ M) (by omega) (by omega) (by omega)).mono ?_;rintro e T ⟨F,f⟩;rw[C.out]at F;subst F;have p:Below w.heap.size w T:=x.trans (f.mono hz);have l:=(f.block _ L).trans s));go_roundw
             case rel=>exact⟨j+1,key,by omega,by go_num,rfl,fun _=>B.out,A,p,l⟩
             case measure=>simp[intOf];omega
           . rw[if_neg r]at a;have ah:(m==0)=false:=by simpa using r
             have ai:(m != 0)=true:=by simpa using r
             have A:=qz a;clear a;go_wp2_with (first|(go_at_call 66;refine(Cm c _ (by omega)).mono ?_;rintro e wv ⟨rfl,rfl⟩)|(go_at_call 124;refine(K.out _ (d+1) _ (Ab.more (by omega) _ _ M) (by omega) (by omega) (by omega)).mono ?_;rintro e T ⟨F,f⟩;rw[C.out]at F;subst F;have p:Below w.heap.size w T:=x.trans (f.mono hz);have l:=(f.block _ L).trans s));go_ret;exact⟨by rw[<-A.out];rfl,p⟩
       . have P:Fv o j=none:=by
          obtain rfl:j=0:=by omega
          rfl
         rw[P]at a;simp only at a;have ag:decide (0<j)=false:=by simpa using R
         have ao:j<=0:=by omega
         clear I P;obtain⟨m,z⟩: ∃m,A0 (.mk k' b' n' t' l' o') (d+1)=m:=⟨_,rfl⟩;rw[z]at a;have C:=qz z;clear z;by_cases r:m=0
         . rw[if_pos r]at a;subst r;have A:=qz a;clear a;go_wp2_with (first|(go_at_call 66;refine(Cm c _ (by omega)).mono ?_;rintro e wv ⟨rfl,rfl⟩)|(go_at_call 124;refine(K.out _ (d+1) _ (Ab.more (by omega) _ _ M) (by omega) (by omega) (by omega)).mono ?_;rintro e T ⟨F,f⟩;rw[C.out]at F;subst F;have p:Below w.heap.size w T:=x.trans (f.mono hz);have l:=(f.block _ L).trans s));go_roundw
           case rel=>exact⟨j+1,key,by omega,by go_num,rfl,fun _=>B.out,A,p,l⟩
           case measure=>simp[intOf];omega
         . rw[if_neg r]at a;have ah:(m==0)=false:=by simpa using r
           have ai:(m != 0)=true:=by simpa using r
           have A:=qz a;clear a;go_wp2_with (first|(go_at_call 66;refine(Cm c _ (by omega)).mono ?_;rintro e wv ⟨rfl,rfl⟩)|(go_at_call 124;refine(K.out _ (d+1) _ (Ab.more (by omega) _ _ M) (by omega) (by omega) (by omega)).mono ?_;rintro e T ⟨F,f⟩;rw[C.out]at F;subst F;have p:Below w.heap.size w T:=x.trans (f.mono hz);have l:=(f.block _ L).trans s));go_ret;exact⟨by rw[<-A.out];rfl,p⟩
     . have aa:A6 key=false:=by simpa using c
       rw[aa]at a;have A:=qz a;clear a c I;go_wp2_with (go_at_call 66;refine(Cm aa _ (by omega)).mono ?_;rintro e wv ⟨rfl,rfl⟩);go_ret;exact⟨by rw[<-A.out];simp,x⟩
   . obtain rfl:j=o.length:=by omega
     have a:=hm.out;rw[List.drop_length]at a;have A:=qz a;clear hm a I S IH;go_wp2;go_ret;exact⟨by rw[<-A.out];rfl,x⟩
theorem Ac0: ∀(v:Val),Ahi v:=by
 refine Val.ind ?_;intro k b n t l o q m cs d w C D h0 G;simp only[Ab]at C;obtain⟨E,B,F,oc,rfl,u,x⟩:=C;simp only[Val.bulk]at D;by_cases h:Fo k b n t l.length o.length=true
 . have i:A0 (.mk k b n t l o) d=9:=by simp only[A0,h,if_true]
   rw[i];clear i q m u x;go_enter Tryz.func124,Tryz.ntmps124;go_wp2_with (go_at_call 191;refine(Il h _).mono ?_;rintro e w' ⟨rfl,f⟩);go_ret;exact⟨rfl,((Below.refl _ _).alloc (Nat.le_refl _) _).trans (f.mono (by simp))⟩
 have a:Fo k b n t l.length o.length=false:=by simpa using h
 clear h;by_cases p:64<d
 . have i:A0 (.mk k b n t l o) d=5:=by simp only[A0,a,Bool.false_eq_true,if_false,p,if_true]
   rw[i];clear i q m u x;go_enter Tryz.func124,Tryz.ntmps124;go_wp2_with (go_at_call 191;refine(Il a _).mono ?_;rintro e w' ⟨rfl,f⟩);go_ret;exact⟨rfl,((Below.refl _ _).alloc (Nat.le_refl _) _).trans (f.mono (by simp))⟩
 by_cases c:A6 t=true
 . obtain⟨K,N,L,M⟩:=My a;by_cases r:l= []
   . subst r;have i:A0 (.mk k b n t [] o) d=Di o none (d+1):=by
      simp only[A0,a,Bool.false_eq_true,if_false,p,c,if_true,Dn]
     rw[i];rcases x with rfl|⟨g,s,rfl,z,x⟩
     . exact Z8 k b n t [] E F B oc d w 0 0 (.inl rfl) (by simp only[Af]at D ⊢;omega) h0 (by omega) m a c
     . exact Z8 k b n t o E _ B oc d w g s (.inr ⟨rfl,z,x⟩) (by omega) h0 (by omega) m a c
   . have J:0<l.length:=List.length_pos_iff.2 r;obtain rfl:o= []:=List.eq_nil_of_length_eq_zero (by omega);have i:A0 (.mk k b n t l []) d=Dn l (d+1):=by
      simp only[A0,a,Bool.false_eq_true,if_false,p,c,if_true,Di]
      split<;>simp_all
     rw[i];rcases u with rfl|⟨g,s,rfl,z,u⟩
     . exact absurd rfl r
     . exact Agb k b n t l _ F B oc d w g s (.inr ⟨rfl,z,u⟩) (by omega) h0 (by omega) q a c
 . have j:A6 t=false:=by simpa using c
   have i:A0 (.mk k b n t l o) d=3:=by simp only[A0,a,Bool.false_eq_true,if_false,p,j]
   rw[i];clear i q m u x c;go_enter Tryz.func124,Tryz.ntmps124;go_wp2_with (first|(go_at_call 191;refine(Il a _).mono ?_;rintro e w1 ⟨rfl,f⟩;obtain⟨H,I⟩:=Fy f;have A:=f.size;simp only[World.size_alloc]at A;have y:Below w.heap.size w w1:=((Below.refl _ _).alloc (Nat.le_refl _) _).trans (f.mono (by simp)))|(go_at_call 66;refine(Cm j _ (by omega)).mono ?_;rintro e O ⟨rfl,rfl⟩));go_ret;exact⟨rfl,y⟩
theorem Sl (v:Val) (cs:List Value) (w:World) (c:Ab w w.heap.size v cs) (g:v.bulk<=1000000000):
 Calls Tryz.prog 67 #[.agg cs.toArray] w fun e w'=>e=.returned (.int .i64 (A0 v 1))/\Below w.heap.size w w':=by
 have a:=c;obtain⟨k,b,n,t,l,o⟩:=v;simp only[Ab]at a;obtain⟨h,i,j,oc,rfl,_,_⟩:=a;have f:=Ac0 _ _ 1 (w.alloc (.cells #[.int .i64 k,.bool b,.int .i64 n,.string t,.slice h l.length i,.slice j o.length oc] 42)) (Ab.more (by simp) _ _ (c.below ((Below.refl _ _).alloc (Nat.le_refl _) _))) g (by omega) (by omega);generalize A0 _ _=m at f ⊢;have H:=qz f;clear f c;go_enter Tryz.func67,Tryz.ntmps67;go_wp2_with (go_at_call 124;refine(H.out).mono ?_;rintro e w' ⟨rfl,d⟩);go_ret;exact⟨rfl,((Below.refl _ _).alloc (Nat.le_refl _) _).trans (d.mono (by simp))⟩
theorem Wc:((Tryz.prog.info? Yv).map fun i=>decide (i.size≠0))=some true:=by kernel_rfl
theorem Df.blk {S:Nat->Prop} {w:World} {n:Nd} {b:Nat} (h:Df S w n b): ∃cs,Ap w b Yv cs:=by
 cases n<;>simp only[Df]at h
 . obtain⟨_,_,_,_,_,h⟩:=h;exact⟨_,h⟩
 . obtain⟨_,_,_,_,_,_,h,_⟩:=h;exact⟨_,h⟩
theorem Ajr (w:World) (q:Nat):(binOp .eql 98 (.pointer (some ⟨q,0,none⟩)) (.pointer (some ⟨q,0,none⟩))).run Tryz.prog w=.ok (.bool true) w:=by
 have h:=Wc
 cases hj:Tryz.prog.info? Yv with
 |none=>rw[hj]at h;cases h
 |some j=>exact run_eql_ptr_same w _ (by kernel_rfl) hj
theorem Agm {w:World} {q r:Nat} {cs b:Array Value} (c:Ap w q Yv cs) (d:Ap w r Yv b) (a:q≠r):(binOp .eql 98 (.pointer (some ⟨q,0,none⟩)) (.pointer (some ⟨r,0,none⟩))).run Tryz.prog w=.ok (.bool false) w:=by
 have h:=Wc
 cases hj:Tryz.prog.info? Yv with
 |none=>rw[hj]at h;cases h
 |some j=>
  rw[hj]at h;exact run_eql_ptr_other w (by kernel_rfl) hj (by simpa using h) (fun e=>a (by cases e;rfl)) c d
theorem F8 (s:ByteArray) (w:World):Calls Tryz.prog 74 #[.string s] w fun e w'=>e=.returned (.agg #[.int .i64 4,.bool false,.int .i64 0,.string s,.slice none 0 0,.slice none 0 0])/\Below w.heap.size w w':=by
 go_enter Tryz.func74,Tryz.ntmps74;go_wp2;exact bodyPost_ret (v:=.agg #[.int .i64 4,.bool false,.int .i64 0,.string s,.slice none 0 0,.slice none 0 0]) (by simp[results,Tryz.results74,go_sem]) rfl ⟨rfl,(Below.refl _ _).alloc (Nat.le_refl _) _⟩
attribute [local go_sem] Oper.semAt_some
theorem Abb (s:ByteArray) (b:Nat) (hs:s.size<=1000000000):
 Aej Tryz.prog 311 #[.pointer (some ⟨b,0,none⟩)] (fun x:Nat×Nat=> #[.int .i64 x.1,.int .i32 x.2]) (Bw s) (fun A=>A.cell? ⟨b,0,none⟩=some (.string s)/\Cj A):=by
 intro n l J X W g T v O h0;refine callsIn_of_wp Tryz.func311 rfl trivial ?_ rfl;simp only[Tryz.ntmps311,List.size_toArray,List.length_cons,List.length_nil,Nat.reduceAdd,Nat.reduceSub,Array.replicate_succ,Array.replicate_zero,List.push_toArray,List.append_toArray,List.nil_append,List.cons_append]
 gi_wp2
 gi_loopw [3] (fun i wr=> ∃(pre:List (Nat×Nat)) (f k:Nat),i=.int .i64 k/\k<=s.size/\s.size - k<=f/\Hid (Bw s=pre++Au f (s.data.toList.drop k) k)/\J pre wr) (fun i _=>s.size - (intOf i).toNat)
 case atStart=>exact⟨[],s.size,0,rfl,Nat.zero_le _,by omega,rfl,h0⟩
 case round=>
  obtain⟨pre,f,k,rfl,Z,Y,C,q⟩:=hrel;have U:wr.cell? ⟨b,0,none⟩=some (.string s):=(v _ _ q).1;have I:Cj wr:=(v _ _ q).2;by_cases K:k<s.size
  . have j:s.data.toList.drop k≠ []:=by
     intro e;have:=congrArg List.length e;rw[List.length_drop,<-Lib.size_eq]at this;simp at this;omega
    obtain⟨f,rfl⟩: ∃R,f=R+1:=⟨f - 1,by omega⟩;have u:=Tryz.utf8_DecodeRuneInString (s.extract k s.size) wr I.2.1;have w:Lib.decodeGo (s.extract k s.size)=Lib.decodeL (s.data.toList.drop k):=Qu s k K;have y:=Lib.decodeL_width (s.data.toList.drop k);have m:=Lib.decodeL_le _ j;have B:=Lib.decodeL_rune (s.data.toList.drop k);rw[List.length_drop,<-Lib.size_eq]at m;have a:=C.out;simp only[Au]at a;rw[if_neg j,List.drop_drop]at a;rw[w]at u;generalize Lib.decodeL (s.data.toList.drop k)=D at u y m B a;obtain⟨r,z⟩:=D;simp only at u y m B a;have F:=qz u;clear u w j C;by_cases c:r=65533/\z=1
    . rw[if_pos c,List.append_nil]at a;have p:=qz a;obtain⟨L,M⟩:=c;have N:((r:Int)==65533)=true:=by simp;omega
      have Q:((z:Int)==1)=true:=by simp;omega
      clear a L M
      gi_wp2_with (refine⟨trivial, ?_⟩;gi_at_call 312;refine(callsIn_wide.2 F.out).mono ?_;rintro e E ⟨rfl,d⟩;have H:=g _ _ _ q d)
      refine bodyPost_ret (results_none rfl _ _ _) rfl ?_;exact⟨⟨_,rfl⟩,.inl (by rw[p.out];exact H)⟩
    . rw[if_neg c]at a;have p:=qz a;have t:Hid (Bw s=(pre++ [(k,r)])++Au f (s.data.toList.drop (k+z)) (k+z)):=by
       show Bw s=_;rw[a];simp
      clear a;rcases(by omega:r≠65533\/(r=65533/\z≠1))with G|⟨G,S⟩
      . have N:((r:Int)==65533)=false:=by simp;omega
        clear G c
        gi_wp2_with (refine⟨trivial, ?_⟩;gi_at_call 312;refine(callsIn_wide.2 F.out).mono ?_;rintro e E ⟨rfl,d⟩;obtain⟨fn,tmps,assign,body,o,h⟩:=O pre (k,r) _ E p.out (g _ _ _ q d);dsimp only at o)
        refine h.mono ?_;rintro e P (⟨rfl,hJ3⟩|⟨rfl,hJ3⟩);rotate_left
        . clear o h
          gi_wp2
          refine bodyPost_ret (results_none rfl _ _ _) rfl ?_;exact⟨⟨_,rfl⟩,.inr hJ3⟩
        clear o h
        gi_wp2
        go_roundw
        case rel=>exact⟨pre++ [(k,r)],f,k+z,by go_num,by omega,by omega,t,hJ3⟩
        case measure=>simp[intOf];omega
      . have N:((r:Int)==65533)=true:=by simp;omega
        have Q:((z:Int)==1)=false:=by simp;omega
        clear G S c
        gi_wp2_with (refine⟨trivial, ?_⟩;gi_at_call 312;refine(callsIn_wide.2 F.out).mono ?_;rintro e E ⟨rfl,d⟩;obtain⟨fn,tmps,assign,body,o,h⟩:=O pre (k,r) _ E p.out (g _ _ _ q d);dsimp only at o)
        refine h.mono ?_;rintro e P (⟨rfl,hJ3⟩|⟨rfl,hJ3⟩);rotate_left
        . clear o h
          gi_wp2
          refine bodyPost_ret (results_none rfl _ _ _) rfl ?_;exact⟨⟨_,rfl⟩,.inr hJ3⟩
        clear o h
        gi_wp2
        go_roundw
        case rel=>exact⟨pre++ [(k,r)],f,k+z,by go_num,by omega,by omega,t,hJ3⟩
        case measure=>simp[intOf];omega
  . obtain rfl:k=s.size:=by omega
    have a:=C.out;rw[List.drop_eq_nil_of_le (by rw[<-Lib.size_eq];omega)]at a;have V:Au f [] s.size= []:=by cases f<;>simp[Au]
    rw[V,List.append_nil]at a;have p:=qz a;clear C a
    gi_wp2
    go_end0
    exact⟨⟨_,rfl⟩,.inl (by rw[p.out];exact q)⟩
end Go.Proofs.YtjgfchcldhmjcaaGreatDoor
