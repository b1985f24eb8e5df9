/- Parts: Maps cell by cell, whatever their elements: an entry stored, an entry looked up. Plain. No condition. -/
import Derived.WalkKit
import Derived.Below
import Derived.Laws.OwnMore
import Derived.Deep.AppendLies
import Derived.Deep.Draws
import Derived.Laws.Rows
import Derived.Maps.AppendAt
import Derived.RegionTactic
import Derived.OwnWalk
import Derived.Laws.CopyRow
import Derived.Laws.AppendOwn
import Derived.Test.YtjgfchcldhmjcaaGreatDoorProg
import Derived.BigQuiet
import Derived.Deep.QuietTactic
import Derived.WalkLawsBesides
import Derived.WalkSpells
import Derived.Lib.Hide
import Derived.Lib.Strings
import Derived.Maps.OwnSet
set_option maxHeartbeats 20000000
namespace Go.Proofs.YtjgfchcldhmjcaaGreatDoor
open Go.RowKit
inductive D where
 |leaf (v:Value)
 |agg (l:List D)
 |row (s:Nat) (l:List D)
mutual
def D.cells:D->Nat
 | .leaf _=>1
 | .agg l=>Kg l
 | .row _ _=>1
def Kg:List D->Nat
 | []=>0
 |d::r=>d.cells+Kg r
end
mutual
def Ag (w:World) (B:Nat):D->List Value->Prop
 | .leaf v,cs=>cs= [v]/\v.oneCell'=true
 | .agg l,cs=>Ah w B l cs
 | .row s l,cs=> ∃a c,cs= [.slice a l.length c]/\(∀d ∈ l,d.cells=s)/\ ∃ns,Ah w B l ns/\(l= []\/ ∃g off,a=some ⟨g,off,none⟩/\g<B/\ ∀j u,ns[j]? =some u->w.cell? ⟨g,off+j,none⟩=some u)
def Ah (w:World) (B:Nat):List D->List Value->Prop
 | [],cs=>cs= []
 |d::r,cs=> ∃c1 c2,cs=c1++c2/\Ag w B d c1/\Ah w B r c2
end
theorem D.ind {p:D->Prop} (h0: ∀v,p (.leaf v)) (c: ∀l,(∀d ∈ l,p d)->p (.agg l)) (e: ∀s l,(∀d ∈ l,p d)->p (.row s l)): ∀d,p d:=by
 intro d;refine D.rec (motive_1:=p) (motive_2:=fun l=> ∀d ∈ l,p d) h0 c e ?_ ?_ d
 . intro d a
   cases a
 . intro d r a f x b;rcases List.mem_cons.1 b with rfl|b
   . exact a
   . exact f x b
theorem Ah.len_of {w:World} {B:Nat}: ∀{l:List D},(∀d ∈ l,∀cs,Ag w B d cs->cs.length=d.cells/\ ∀u ∈ cs,u.oneCell'=true)-> ∀{cs},Ah w B l cs->cs.length=Kg l/\ ∀u ∈ cs,u.oneCell'=true
 | [],_,cs,h=>by
   have:cs= []:=h;subst this;exact⟨rfl,fun u a=>by cases a⟩
 |d::r,ih,cs,h=>by
  obtain⟨c1,c2,rfl,f,g⟩:=h;obtain⟨a1,b⟩:=ih d (by simp) c1 f;obtain⟨c,e⟩:=Ah.len_of (fun x i=>ih x (by simp[i])) g;refine⟨by simp only[List.length_append,Kg,a1,c],fun u a=> ?_⟩;rcases List.mem_append.1 a with a|a
  . exact b u a
  . exact e u a
theorem Ag.len {w:World} {B:Nat}: ∀{d:D} {cs},Ag w B d cs->cs.length=d.cells/\ ∀u ∈ cs,u.oneCell'=true:=by
 intro d;refine D.ind (p:=fun d=> ∀{cs},Ag w B d cs->cs.length=d.cells/\ ∀u ∈ cs,u.oneCell'=true) ?_ ?_ ?_ d
 . intro v cs h;obtain⟨rfl,f⟩:=h;exact⟨rfl,fun u b=>by simp at b;rw[b];exact f⟩
 . intro l g cs h;exact Ah.len_of (fun d e _=>g d e) h
 . intro s l _ cs h;obtain⟨a,c,rfl,_⟩:=h;exact⟨rfl,fun u b=>by simp at b;rw[b];rfl⟩
theorem Ah.len {w:World} {B:Nat} {l:List D} {cs:List Value} (h:Ah w B l cs):cs.length=Kg l/\ ∀u ∈ cs,u.oneCell'=true:=Ah.len_of (fun _ _ _ a=>a.len) h
theorem Ge {s:Nat}: ∀{l:List D},(∀d ∈ l,d.cells=s)->Kg l=l.length*s
 | [],_=>by simp[Kg]
 |d::r,h=>by
  have b:=h d (by simp);have c:=Ge (l:=r) (fun x a=>h x (by simp[a]));simp only[Kg,List.length_cons,Nat.add_mul,Nat.one_mul];omega
theorem Ah.imp {w w':World} {B B':Nat}: ∀{l:List D},(∀d ∈ l,∀cs,Ag w B d cs->Ag w' B' d cs)-> ∀{cs},Ah w B l cs->Ah w' B' l cs
 | [],_,_,h=>h
 |d::r,ih,cs,h=>by
  obtain⟨c1,c2,e,a,b⟩:=h;exact⟨c1,c2,e,ih d (by simp) c1 a,Ah.imp (fun x c=>ih x (by simp[c])) b⟩
theorem Ag.imp {w w':World} {B B':Nat} (y:B<=B') (r: ∀p:Addr,p.block<B->w'.cell? p=w.cell? p): ∀{d:D} {cs},Ag w B d cs->Ag w' B' d cs:=by
 intro d;refine D.ind (p:=fun d=> ∀{cs},Ag w B d cs->Ag w' B' d cs) ?_ ?_ ?_ d
 . intro v cs h;exact h
 . intro l k cs h;exact Ah.imp (fun d i _=>k d i) h
 . intro s l k cs h;obtain⟨a,c,e,t,ns,o,f⟩:=h;refine⟨a,c,e,t,ns,Ah.imp (fun d i _=>k d i) o, ?_⟩;rcases f with f|⟨g,m,n,q,b⟩
   . exact .inl f
   . exact .inr ⟨g,m,n,by omega,fun j u x=>(r _ q).trans (b j u x)⟩
theorem Ag.keep {w w':World} {B:Nat} {d:D} {cs:List Value} (h:Ag w B d cs) (a: ∀p:Addr,p.block<B->w'.cell? p=w.cell? p):Ag w' B d cs:=h.imp (Nat.le_refl _) a
theorem Ag.below {w w':World} {B:Nat} {d:D} {cs:List Value} (h:Ag w B d cs) (a:Below B w w'):Ag w' B d cs:=h.keep fun _ b=>a.cell b
theorem Ag.more {w:World} {B B':Nat} {d:D} {cs:List Value} (h:Ag w B d cs) (a:B<=B'):Ag w B' d cs:=h.imp a fun _ _=>rfl
theorem Ah.keep {w w':World} {B:Nat} {l:List D} {cs:List Value} (h:Ah w B l cs) (b: ∀p:Addr,p.block<B->w'.cell? p=w.cell? p):Ah w' B l cs:=Ah.imp (fun _ _ _ a=>a.keep b) h
theorem Ah.below {w w':World} {B:Nat} {l:List D} {cs:List Value} (h:Ah w B l cs) (a:Below B w w'):Ah w' B l cs:=h.keep fun _ b=>a.cell b
theorem Ah.more {w:World} {B B':Nat} {l:List D} {cs:List Value} (h:Ah w B l cs) (a:B<=B'):Ah w B' l cs:=Ah.imp (fun _ _ _ b=>b.more a) h
theorem Ag.later {w w':World} {d:D} {cs:List Value} (h:Ag w w.heap.size d cs) (a:Below w.heap.size w w'):Ag w' w'.heap.size d cs:=(h.below a).more a.size
theorem Ah.later {w w':World} {l:List D} {cs:List Value} (h:Ah w w.heap.size l cs) (a:Below w.heap.size w w'):Ah w' w'.heap.size l cs:=(h.below a).more a.size
theorem Ah.app {w:World} {B:Nat}: ∀{a b:List D} {ns ms:List Value},Ah w B a ns->Ah w B b ms->Ah w B (a++b) (ns++ms)
 | [],b,ns,ms,h,h'=>by
   have:ns= []:=h;subst this;exact h'
 |d::r,b,ns,ms,h,h'=>by
  obtain⟨c1,c2,rfl,c,e⟩:=h;exact⟨c1,c2++ms,by simp,c,Ah.app e h'⟩
theorem Ah.one {w:World} {B:Nat} {d:D} {cs:List Value} (h:Ag w B d cs):Ah w B [d] cs:=⟨cs, [],by simp,h,rfl⟩
theorem Ah.snoc {w:World} {B:Nat} {l:List D} {d:D} {ns cs:List Value} (h:Ah w B l ns) (a:Ag w B d cs):Ah w B (l++ [d]) (ns++cs):=h.app (Ah.one a)
theorem Ah.split {w:World} {B s:Nat}: ∀{l:List D} {ns:List Value} (k:Nat),(∀d ∈ l,d.cells=s)->Ah w B l ns->Ah w B (l.take k) (ns.take (k*s))/\Ah w B (l.drop k) (ns.drop (k*s))
 | [],ns,k,_,h=>by
   have:ns= []:=h;subst this;simp[Ah]
 |d::r,ns,0,_,h=>by
  simp only[List.take_zero,Nat.zero_mul,List.drop_zero];exact⟨rfl,h⟩
 |d::r,ns,k+1,hs,h=>by
  obtain⟨c1,c2,rfl,e,i⟩:=h;obtain⟨a,b⟩:=Ah.split k (fun x j=>hs x (by simp[j])) i;have c:c1.length=s:=e.len.1.trans (hs d (by simp));have f:(c1++c2).take ((k+1)*s)=c1++c2.take (k*s):=by
   rw[List.take_append,List.take_of_length_le (by rw[c,Nat.add_mul];omega),c,Nat.add_mul,Nat.one_mul,Nat.add_sub_cancel]
  have g:(c1++c2).drop ((k+1)*s)=c2.drop (k*s):=by
   rw[List.drop_append,List.drop_eq_nil_of_le (by rw[c,Nat.add_mul];omega),c,Nat.add_mul,Nat.one_mul,Nat.add_sub_cancel,List.nil_append]
  rw[f,g];exact⟨⟨c1,c2.take (k*s),rfl,e,a⟩,b⟩
theorem Ah.at_ {w:World} {B s:Nat} {l:List D} {ns:List Value} (f: ∀d ∈ l,d.cells=s) (h:Ah w B l ns) {i:Nat} {d:D} (n:l[i]? =some d):
 ∃cs,Ag w B d cs/\cs.length=s/\ ∀j u,cs[j]? =some u->ns[i*s+j]? =some u:=by
 obtain⟨_,b⟩:=Ah.split i f h;obtain⟨a,rfl⟩:=List.getElem?_eq_some_iff.1 n;rw[List.drop_eq_getElem_cons a]at b;obtain⟨c1,c2,e,c,_⟩:=b;have o:c1.length=s:=c.len.1.trans (f _ (List.getElem_mem a));refine⟨c1,c,o,fun j u g=> ?_⟩;have m:=(List.getElem?_eq_some_iff.1 g).1;have k:(ns.drop (i*s))[j]? =some u:=by
  rw[e,List.getElem?_append_left m];exact g
 rwa [List.getElem?_drop]at k
theorem Ag.at_ {w:World} {B s:Nat} {l:List D} {a:Option Addr} {n c:Nat} (h:Ag w B (.row s l) [.slice a n c]) {i:Nat} {d:D} (k:l[i]? =some d):
 ∃g b,a=some ⟨g,b,none⟩/\g<B/\ ∃cs,Ag w B d cs/\cs.length=s/\ ∀j u,cs[j]? =some u->w.cell? ⟨g,b+i*s+j,none⟩=some u:=by
 obtain⟨z,A,e,x,ns,o,p⟩:=h;simp only[List.cons.injEq,Value.slice.injEq,and_true]at e;obtain⟨rfl,rfl,rfl⟩:=e;rcases p with rfl|⟨g,b,m,v,f⟩
 . simp at k
 . obtain⟨cs,q,r,t⟩:=o.at_ x k;exact⟨g,b,m,v,cs,q,r,fun j u y=>by rw[Nat.add_assoc];exact f _ u (t j u y)⟩
theorem Ag.row_len {w:World} {B s:Nat} {l:List D} {a:Option Addr} {n c:Nat} (h:Ag w B (.row s l) [.slice a n c]):n=l.length:=by
 obtain⟨b,d,e,_⟩:=h;simp only[List.cons.injEq,Value.slice.injEq,and_true]at e;obtain⟨rfl,rfl,rfl⟩:=e;exact rfl
def A7 (b:Nat) (w':World) (d:D) (cs:List Value):Prop:=
 ∀w'':World,w'.heap.size<=w''.heap.size->(∀p:Addr,b<=p.block->p.block<w'.heap.size->w''.cell? p=w'.cell? p)->Ag w'' w'.heap.size d cs
def Iw (b:Nat) (w':World) (l:List D) (cs:List Value):Prop:=
 ∀w'':World,w'.heap.size<=w''.heap.size->(∀p:Addr,b<=p.block->p.block<w'.heap.size->w''.cell? p=w'.cell? p)->Ah w'' w'.heap.size l cs
theorem A7.now {b:Nat} {w':World} {d:D} {cs:List Value} (h:A7 b w' d cs):Ag w' w'.heap.size d cs:=h w' (Nat.le_refl _) fun _ _ _=>rfl
theorem Iw.now {b:Nat} {w':World} {l:List D} {cs:List Value} (h:Iw b w' l cs):Ah w' w'.heap.size l cs:=h w' (Nat.le_refl _) fun _ _ _=>rfl
theorem Iw.nil (b:Nat) (w':World):Iw b w' [] []:=fun _ _ _=>rfl
theorem Iw.keep {b:Nat} {wr w':World} {l:List D} {ns:List Value} (h:Iw b wr l ns) (a:wr.heap.size<=w'.heap.size) (i: ∀p:Addr,b<=p.block->p.block<wr.heap.size->w'.cell? p=wr.cell? p):Iw b w' l ns:=
 fun c f g=>Ah.more (h c (Nat.le_trans a f) (fun p d e=>(g p d (Nat.lt_of_lt_of_le e a)).trans (i p d e))) a
theorem A7.keep {b b':Nat} {wr w':World} {d:D} {ns:List Value} (h:A7 b wr d ns) (j:b'<=b) (a:wr.heap.size<=w'.heap.size) (k: ∀p:Addr,b<=p.block->p.block<wr.heap.size->w'.cell? p=wr.cell? p):A7 b' w' d ns:=
 fun c g i=>Ag.more (h c (Nat.le_trans a g) (fun p e f=>(i p (Nat.le_trans j e) (Nat.lt_of_lt_of_le f a)).trans (k p e f))) a
theorem A7.later {b:Nat} {w w':World} {d:D} {ns:List Value} (h:A7 b w d ns) (a:Below w.heap.size w w'):A7 b w' d ns:=h.keep (Nat.le_refl _) a.size fun _ _ c=>a.cell c
theorem Iw.later {b:Nat} {w w':World} {l:List D} {ns:List Value} (h:Iw b w l ns) (a:Below w.heap.size w w'):Iw b w' l ns:=h.keep a.size fun _ _ c=>a.cell c
theorem Iw.row {b s:Nat} {w':World} {l:List D} {ns:List Value} {a:Option Addr} {c:Nat} (h:Iw b w' l ns) (r: ∀d ∈ l,d.cells=s)
 (k:l= []\/ ∃g f,a=some ⟨g,f,none⟩/\b<=g/\g<w'.heap.size/\ ∀j u,ns[j]? =some u->w'.cell? ⟨g,f+j,none⟩=some u):A7 b w' (.row s l) [.slice a l.length c]:=by
 intro n q o;refine⟨a,c,rfl,r,ns,h n q o, ?_⟩;rcases k with k|⟨g,f,e,m,p,i⟩
 . exact .inl k
 . exact .inr ⟨g,f,e,p,fun j u t=>(o _ m p).trans (i j u t)⟩
theorem O0 (a:Addr) (n:Nat):(a.add n).block=a.block:=by unfold Addr.add;split<;>rfl
theorem Ab3 (a:Addr) (i j:Nat):(a.add i).add j=a.add (i+j):=by
 unfold Addr.add;by_cases b:i=0<;>by_cases c:j=0<;>simp[b,c,Nat.add_assoc]
def Bt (w:World) (B size:Nat) (A:Option Addr) (n:Nat) (xs:List Value):Prop:=
 xs.length=n*size/\(0<n-> ∃ad,A=some ad/\ad.block<B/\ ∀j u,xs[j]? =some u->w.cell? (ad.add j)=some u)
section
variable {w w':World} {B B' size n:Nat} {A:Option Addr} {xs:List Value}
theorem Bt.at_ {k:Nat} (h:Bt w B 1 A n xs) (f:k<n): ∃a u,A=some a/\a.block<B/\xs[k]? =some u/\w.cell? (a.add k)=some u:=by
 obtain⟨a,e,c,d⟩:=h.2 (by omega);have b:k<xs.length:=by have:=h.1;omega
 exact⟨a,xs[k],e,c,List.getElem?_eq_getElem b,d k _ (List.getElem?_eq_getElem b)⟩
theorem Bt.keep (h:Bt w B size A n xs) (d: ∀p:Addr,p.block<B->w'.cell? p=w.cell? p):Bt w' B size A n xs:=
 ⟨h.1,fun f=>by
   obtain⟨b,e,a,c⟩:=h.2 f;exact⟨b,e,a,fun j u g=>(d _ (by rw[O0];exact a)).trans (c j u g)⟩⟩
theorem Bt.more (h:Bt w B size A n xs) (d:B<=B'):Bt w B' size A n xs:=
 ⟨h.1,fun c=>by
   obtain⟨a,e,f,b⟩:=h.2 c;exact⟨a,e,by omega,b⟩⟩
theorem Bt.below (h:Bt w B size A n xs) (a:Below B w w'):Bt w' B size A n xs:=h.keep fun _ b=>a.cell b
theorem Bt.drew (h:Bt w B size A n xs):Bt w.drew B size A n xs:=h
theorem Bt.drewN (h:Bt w B size A n xs) (k:Nat):Bt (w.drewN k) B size A n xs:=h
theorem Bt.alloc (h:Bt w B size A n xs) (a:B<=w.heap.size) (o:Obj):Bt (w.alloc o) B size A n xs:=h.keep fun p b=>World.cell?_alloc_lt w o p (by omega)
theorem Bt.setCell (h:Bt w B size A n xs) {p:Addr} (a:B<=p.block) (u:Value):Bt (w.setCell p u) B size A n xs:=
 h.keep fun q b=>World.cell?_setCell_other w p q u (fun e=>by subst e;omega)
theorem Bt.grown (h:Bt w B size A n xs) {row:Option Nat} (a:w.grownBy w' row) (c:B<=w.heap.size) (b: ∀g,row=some g->B<=g):Bt w' B size A n xs:=
 h.keep fun p d=>World.cell?_of_block (a.block p.block (by omega) (fun e=>by have:=b _ e.symm;omega))
theorem Bt.cut (h:Bt w B size A n xs) {k b:Nat} (g:k<=n) (f:n<=b):
 Bt w B size (if b=k then A else A.map (·.add (k*size))) (n - k) (xs.drop (k*size)):=by
 refine⟨by rw[List.length_drop,h.1,Nat.sub_mul],fun i=> ?_⟩;obtain⟨c,rfl,d,a⟩:=h.2 (by omega);rw[if_neg (by omega)];refine⟨c.add (k*size),rfl,by rw[O0];exact d,fun j u e=> ?_⟩;rw[Ab3];exact a _ u (by rw[<-e,List.getElem?_drop])
end
def Ap (w:World) (g:Nat) (t:TypeId) (cs:Array Value):Prop:=w.heap[g]? =some (.cells cs t (0,0))
section
variable {w w':World} {g:Nat} {t:TypeId} {cs:Array Value}
theorem Ap.lt (h:Ap w g t cs):g<w.heap.size:=by
 rcases Nat.lt_or_ge g w.heap.size with b|a
 . exact b
 . unfold Ap at h;rw[Array.getElem?_eq_none a]at h;cases h
theorem Ap.cell (h:Ap w g t cs) (i:Nat):w.cell? ⟨g,i,none⟩=cs[i]? :=cell_of_row w g i cs t (0,0) h
theorem Ap.frozen (h:Ap w g t cs) (i:Nat):w.frozen? ⟨g,i,none⟩=false:=by
 unfold Ap at h;simp[World.frozen?,h]
theorem Ap.new (w:World) (t:TypeId) (cs:Array Value):Ap (w.alloc (.cells cs t)) w.heap.size t cs:=heap_alloc_new w _
theorem Ap.drew (h:Ap w g t cs):Ap w.drew g t cs:=h
theorem Ap.drewN (h:Ap w g t cs) (n:Nat):Ap (w.drewN n) g t cs:=h
theorem Ap.alloc (h:Ap w g t cs) (o:Obj):Ap (w.alloc o) g t cs:=(Below.heap_alloc w o g h.lt).trans h
theorem Ap.set_ (h:Ap w g t cs) (i:Nat) (u:Value):Ap (w.setCell ⟨g,i,none⟩ u) g t (cs.setIfInBounds i u):=by
 unfold Ap at h ⊢;simp[World.setCell,Array.getElem?_modify,h]
theorem Ap.far (h:Ap w g t cs) {p:Addr} (a:g≠p.block) (u:Value):Ap (w.setCell p u) g t cs:=(Below.heap_setCell w p u g a).trans h
theorem Ap.below {B:Nat} (h:Ap w g t cs) (a:Below B w w') (b:g<B):Ap w' g t cs:=(a.block g b).trans h
theorem Ap.grown {row:Option Nat} (h:Ap w g t cs) (a:w.grownBy w' row) (b:some g≠row):Ap w' g t cs:=(a.block g h.lt b).trans h
end
section
variable {P:Program} (w:World)
theorem Pl (base:Nat) (t ty e:TypeId) (i:TypeInfo) (size:Nat) (d:P.underlying t=some (.slice e)) (b:P.info? e=some i)
 (v:Value) (n:Nat) (xs:List Value) (a:w.ownsRow base e size v n xs) (c:Nat):(Builtin.append_ #[t,t] ty #[v,.slice none 0 c]).run P w=.ok v w:=by
 rcases a.2 with⟨rfl,rfl⟩|⟨g,cap,cur,rfl,_,_,hnc,_⟩
 . simp[Builtin.append_,run_underlying d,sizeOf,typeInfo,b,Builtin.lenOf,Builtin.firstCells]
 . simp[Builtin.append_,run_underlying d,sizeOf,typeInfo,b,Builtin.lenOf,Builtin.firstCells,hnc,storeCells]
theorem J0 (base:Nat) (t ty e:TypeId) (i:TypeInfo) (z:Value) (size bytes:Nat) (D:P.underlying t=some (.slice e)) (C:P.info? e=some i) (M:i.zero=some z)
 (k:i.size=size) (r:i.bytes=bytes) (y:z.cells.size=size) (x:0<size)
 (v:Value) (n:Nat) (xs:List Value) (b:w.ownsRow base e size v n xs)
 (B:Nat) (A:Option Addr) (m c:Nat) (a:List Value) (l:Bt w B size A m a) (G: ∀u ∈ a,u.oneCell'=true)
 (q:n+m<=maxLen) (d:(n+m)*bytes<=140737488355328) (g:base<=w.heap.size):
 ∃v' w',(Builtin.append_ #[t,t] ty #[v,.slice A m c]).run P w=.ok v' w'/\w'.ownsRow base e size v' (n+m) (xs++a)/\w.grownBy w' v.ownBlock/\
  (v'.ownBlock=v.ownBlock\/v'.ownBlock=some w.heap.size):=by
 rcases A with _|p
 . have L:m=0:=by
    rcases Nat.eq_zero_or_pos m with h0|h0
    . exact h0
    . obtain⟨p,h,_⟩:=l.2 h0
      cases h
   subst L;have s:a= []:=List.eq_nil_of_length_eq_zero (by simpa using l.1);subst s;exact⟨v,w,Pl w base t ty e i size D C v n xs b c,by simpa using b,World.grownBy.refl w _,.inl rfl⟩
 . have f: ∀j u,a[j]? =some u->w.cell? (p.add j)=some u:=by
    intro j u E;rcases Nat.eq_zero_or_pos m with h0|h0
    . subst h0;have s:a= []:=List.eq_nil_of_length_eq_zero (by simpa using l.1);subst s;simp at E
    . obtain⟨F,h,_,K⟩:=l.2 h0
      injection h with h
      subst h;exact K j u E
   obtain⟨v',w',o,H,I,_,J⟩:=run_append_own_at (P:=P) w base t ty e i z size bytes D C M k r y x v n xs b p m c a l.1 f G q d g;exact⟨v',w',o,H,I,J⟩
theorem Vg {o:Oper} {a:Act} {K:Act->World->Prop} {Q:Exit->Act->World->Prop} (s x:Operand) (t:TypeId)
 (G:o.op=.call {callee:=.builtin .append,args:= #[s,x],argTypes:= #[t,t]})
 (base:Nat) (e:TypeId) (i:TypeInfo) (z:Value) (size bytes:Nat) (J:P.underlying t=some (.slice e)) (F:P.info? e=some i) (M:i.zero=some z)
 (g:i.size=size) (p:i.bytes=bytes) (r:z.cells.size=size) (q:0<size)
 (v:Value) (n:Nat) (xs:List Value) (I:a.eval s=v) (j:w.ownsRow base e size v n xs)
 (B:Nat) (A:Option Addr) (m c:Nat) (b:List Value) (L:a.eval x=.slice A m c) (H:Bt w B size A m b) (y: ∀u ∈ b,u.oneCell'=true)
 (l:n+m<=maxLen) (d:(n+m)*bytes<=140737488355328) (f:base<=w.heap.size)
 (h: ∀v' w',w'.ownsRow base e size v' (n+m) (xs++b)->w.grownBy w' v.ownBlock->(v'.ownBlock=v.ownBlock\/v'.ownBlock=some w.heap.size)->K (a.put o.dst v') w'):o.wp P a w K Q:=by
 obtain⟨v',w',k,C,D,E⟩:=J0 (P:=P) w base t o.type e i z size bytes J F M g p r q v n xs j B A m c b H y l d f;unfold Oper.wp execOp;simp only[G,resolve,invoke,builtin,Sem.run_bind,Sem.run_pure,Result.andThen_ok,List.map_toArray,List.map_cons,List.map_nil,I,L,k];exact h v' w' C D E
theorem Fc {k:Array Oper} {rest:List Oper} {o:Oper} {a:Act} {Q:Exit->Act->World->Prop} (q:o.guard=none) (s x:Operand) (t:TypeId)
 (I:o.op=.call {callee:=.builtin .append,args:= #[s,x],argTypes:= #[t,t]})
 (base:Nat) (e:TypeId) (i:TypeInfo) (z:Value) (size bytes:Nat) (L:P.underlying t=some (.slice e)) (H:P.info? e=some i) (N:i.zero=some z)
 (g:i.size=size) (p:i.bytes=bytes) (y:z.cells.size=size) (r:0<size)
 (v:Value) (n:Nat) (xs:List Value) (K:a.eval s=v) (j:w.ownsRow base e size v n xs)
 (B:Nat) (A:Option Addr) (m c:Nat) (b:List Value) (M:a.eval x=.slice A m c) (J:Bt w B size A m b) (C: ∀u ∈ b,u.oneCell'=true)
 (l:n+m<=maxLen) (d:(n+m)*bytes<=140737488355328) (f:base<=w.heap.size)
 (h: ∀v' w',w'.ownsRow base e size v' (n+m) (xs++b)->w.grownBy w' v.ownBlock->(v'.ownBlock=v.ownBlock\/v'.ownBlock=some w.heap.size)->wpList P k Q rest (a.put o.dst v') w'):wpList P k Q (o::rest) a w:=
 wpList_plain q fun _ G=>Vg w s x t I base e i z size bytes L H N g p y r v n xs K j B A m c b M J C l d f fun v' w' D E F=>G _ _ (h v' w' D E F)
end
section
variable {P:Program}
theorem Np (w:World) (n A ty d:TypeId) (s g o c f:Nat) (a:Addr) (e m:Nat) (b:Array Value) (t:TypeId) (cs:List Value)
 (z:P.underlying n=some (.slice d)) (p:(P.info? d).map (·.size)=some s)
 (r:w.heap[g]? =some (.cells b t (0,0))) (y:cs.length=Nat.min e c*s)
 (k: ∀j v,cs[j]? =some v->w.cell? (a.add j)=some v) (h:o+cs.length<=b.size) (q: ∀v ∈ cs,v.oneCell'=true):
 (Builtin.copy_ #[n,A] ty #[.slice (some ⟨g,o,none⟩) c f,.slice (some a) e m]).run P w=
   .ok (goInt (Nat.min e c)) (w.setRow g (b.toList.take o++cs++b.toList.drop (o+cs.length)).toArray):=by
 have x:=run_loadCells_list (P:=P) w a cs k;have l:=run_storeCells_at P g o t cs 0 b w r (by simpa using h) q
 cases hq:P.info? d with
 |none=>simp[hq]at p
 |some i=>
  have u:i.size=s:=by simpa[hq]using p
  subst u;simp only[Nat.add_zero]at l;simp[Builtin.copy_,run_underlying z,Builtin.lenOf,Builtin.firstCells,sizeOf,typeInfo,hq,<-y,x,l]
end
theorem Adb {w:World} {b g n a s:Nat} {e:TypeId} {c:Array Value} {xs:List Value} (i:b<=g) (j:w.heap[g]? =some (.cells c e (0,0))) (d:n<=a) (k:a<=maxLen) (f:c.size=a*s) (h:c.toList.take (n*s)=xs):w.ownsRow b e s (.slice (some ⟨g,0,none⟩) n a) n xs:=by
 refine⟨?_,.inr ⟨g,a,c,rfl,i,j,d,k,f,h⟩⟩;have:n*s<=a*s:=Nat.mul_le_mul_right _ d;rw[<-h,List.length_take,Array.length_toList,f];omega
theorem Vm {B g:Nat} {w0 w:World} (h:Below B w0 w) (b:B<=g) (cs:Array Value):Below B w0 (w.setRow g cs):=⟨h.os,h.tape,h.output,by rw[size_setRow];exact h.size,fun k a=>(setRow_other _ _ _ _ (by omega)).trans (h.block k a)⟩
theorem Q0 {w w1:World} {r:Option Nat} (h:Below w.heap.size w w1):w.grownBy w1 r:=⟨h.os,h.tape,h.output,h.size,fun i a _=>h.block i a⟩
theorem Ads {a:Type} (A M Z:List a) (y z:List a) (p q:Nat) (f:A.length=p) (h:M.length=y.length+z.length) (g:q=p+y.length):
 (((A++M++Z).take p++y++(A++M++Z).drop (p+y.length)).take q++z++((A++M++Z).take p++y++(A++M++Z).drop (p+y.length)).drop (q+z.length))=A++y++z++Z:=by
 subst f g;have b:(A++M++Z).take A.length=A:=by rw[List.append_assoc,List.take_left'];rfl
 have c:(A++M++Z).drop (A.length+y.length)=M.drop y.length++Z:=by
  rw[List.append_assoc,List.drop_append,List.drop_eq_nil_of_le (by omega),List.nil_append,show A.length+y.length - A.length=y.length by omega,List.drop_append_of_le_length (by omega)]
 rw[b,c];have d:(A++y++(M.drop y.length++Z)).take (A.length+y.length)=A++y:=by rw[List.take_left'];simp
 have e:(A++y++(M.drop y.length++Z)).drop (A.length+y.length+z.length)=Z:=by
  rw[<-List.append_assoc,List.drop_left'];simp;omega
 rw[d,e]
def Fo (k:Int) (b:Bool) (n:Int) (t:ByteArray) (ln on:Nat):Bool:=
 if k==1 then b||n != 0|| !t.toList.isEmpty||ln != 0||on != 0
 else if k==2 then n != 0|| !t.toList.isEmpty||ln != 0||on != 0
 else if k==3 then b|| !t.toList.isEmpty||ln != 0||on != 0
 else if k==4 then b||n != 0||ln != 0||on != 0
 else if k==5 then b||n != 0|| !t.toList.isEmpty||on != 0
 else if k==6 then b||n != 0|| !t.toList.isEmpty||ln != 0
 else true
theorem Agi (k:Int) (b:Bool) (n:Int) (t:ByteArray) (c f:Option Addr) (a d on oc:Nat) (w:World):
 Calls Tryz.prog 132 #[.agg #[.int .i64 k,.bool b,.int .i64 n,.string t,.slice c a d,.slice f on oc]] w fun e w'=>e=.returned (.bool (Fo k b n t a on))/\Below w.heap.size w w':=by
 go_enter Tryz.func132,Tryz.ntmps132;go_wp2
 all_goals go_ret
 all_goals simp only[Fo, *]
 all_goals refine⟨by first|(simp_all;done)|(simp_all;omega)|(simp_all;rw[Bool.eq_iff_iff];simp[Nat.pos_iff_ne_zero]), ?_⟩
 all_goals exact Below.alloc (Below.refl _ _) (Nat.le_refl _) _
theorem Ag3 {t:ByteArray} (h: ¬t=ByteArray.empty):t.toList≠ []:=by
 intro e;rw[Lib.toList_data]at e;apply h;have:t.data= #[]:=by simpa using e
 exact ByteArray.ext this
theorem Aa5 {a b:Bool} (h:a=b):Ending.returned (.bool a)=.returned (.bool b):=by rw[h]
theorem Ahx (n:Nat):((n:Int)==0)=(n==0):=by rw[Bool.eq_iff_iff];simp
theorem Ab4 (k:Int) (b:Bool) (n:Int) (t:ByteArray) (c f:Option Addr) (a d on oc:Nat) (w:World):
 Calls Tryz.prog 191 #[.agg #[.int .i64 k,.bool b,.int .i64 n,.string t,.slice c a d,.slice f on oc]] w fun e w'=>e=.returned (.bool (!Fo k b n t a on))/\Below w.heap.size w w':=by
 rcases(by omega:k=1\/k=2\/k=3\/k=4\/k=5\/k=6\/k<1\/6<k)with rfl|rfl|rfl|rfl|rfl|rfl|h|h
 all_goals
  go_enter Tryz.func191,Tryz.ntmps191;go_wp2
  all_goals go_ret
  all_goals refine⟨Aa5 ?_,Below.alloc (Below.refl _ _) (Nat.le_refl _) _⟩
  all_goals simp only[Fo,Ahx]
 all_goals first|(simp_all[Ag3];done)|(subst_vars;simp_all[bne];done)|(rw[if_neg (by simp;omega),if_neg (by simp;omega),if_neg (by simp;omega),if_neg (by simp;omega),if_neg (by simp;omega),if_neg (by simp;omega)];rfl)|skip
structure MKey {α:Type} [DecidableEq α] (P:Program) (kt:TypeId) (f:α->Value):Prop where
 under: ∃d,P.underlying kt=some d/\ ∀a b,Instr.sameNow d (f a) (f b)=some (decide (a=b))
 check: ∀e w a,(Instr.checkKey e 10000 kt (f a)).run P w=.ok () w
theorem Sq (a b:ByteArray):(a==b)=decide (a=b):=by
 obtain⟨a⟩:=a;obtain⟨b⟩:=b;have h:((⟨a⟩:ByteArray)==⟨b⟩)=(a==b):=rfl;rw[h];by_cases e:a=b<;>simp[e]
theorem Ra {P:Program} {c:TypeId} (h:P.underlying c=some .string):MKey P c Value.string:=by
 refine⟨⟨_,h,fun a b=> ?_⟩,fun e w a=> ?_⟩
 . simp only[Instr.sameNow]
   congr 1
   exact Sq a b
 . have key: ∀n,(Instr.checkKey e (n+1) c (.string a)).run P w=.ok () w:=fun n=>by simp[Instr.checkKey,run_underlying h]
   exact key 9999
theorem Aja {P:Program} {c:TypeId} {q:IntKind} (h:P.underlying c=some (.int q)):MKey P c (Value.int q):=by
 refine⟨⟨_,h,fun a b=> ?_⟩,fun e w a=> ?_⟩
 . simp only[Instr.sameNow,if_true]
   congr 1
 . have key: ∀n,(Instr.checkKey e (n+1) c (.int q a)).run P w=.ok () w:=fun n=>by simp[Instr.checkKey,run_underlying h]
   exact key 9999
section
variable {α:Type}
def J9 (f:α->Value):List (α×Value)->Nat->List MapEntry
 | [],_=> []
 |(k,v)::r,i=>{key:=f k,val:=v,born:=i}::J9 f r (i+1)
def Co (f:α->Value) (w:World) (g:Nat) (kv:List (α×Value)):Prop:=w.heap[g]? =some (.map (J9 f kv 0).toArray kv.length)
def Dw [DecidableEq α] (a:α):List (α×Value)->Option Value
 | []=>none
 |(k,v)::r=>if a=k then some v else Dw a r
variable {f:α->Value} {P:Program} {kt et t:TypeId} {w w':World} {g:Nat} {kv:List (α×Value)}
theorem O4: ∀(kv:List (α×Value)) (i:Nat) (k:α) (v:Value),J9 f (kv++ [(k,v)]) i=J9 f kv i++ [{key:=f k,val:=v,born:=i+kv.length}]
 | [],i,k,v=>by simp[J9]
 |(a,b)::r,i,k,v=>by
  simp only[List.cons_append,J9,O4 r,List.length_cons];rw[show i+1+r.length=i+(r.length+1)from by omega]
theorem Co.lt (h:Co f w g kv):g<w.heap.size:=by
 rcases Nat.lt_or_ge g w.heap.size with a|a
 . exact a
 . unfold Co at h;rw[Array.getElem?_eq_none a]at h;cases h
theorem Co.keep (h:Co f w g kv) (a:w'.heap[g]? =w.heap[g]?):Co f w' g kv:=a.trans h
theorem Co.below {B:Nat} (h:Co f w g kv) (a:Below B w w') (b:g<B):Co f w' g kv:=(a.block g b).trans h
theorem Co.alloc (h:Co f w g kv) (o:Obj):Co f (w.alloc o) g kv:=(Below.heap_alloc w o g h.lt).trans h
theorem Co.new (w:World):Co f (w.alloc (.map #[] 0)) w.heap.size []:=heap_alloc_new w _
theorem Co.setCell (h:Co f w g kv) {p:Addr} (a:g≠p.block) (u:Value):Co f (w.setCell p u) g kv:=(Below.heap_setCell w p u g a).trans h
variable [DecidableEq α]
theorem P6 {d:TypeDesc} (c: ∀a b,Instr.sameNow d (f a) (f b)=some (decide (a=b))) (a:α): ∀(kv:List (α×Value)) (i j:Nat),∃q,Instr.findNow d (f a) (J9 f kv i) j=some q/\q.map (·.2)=Dw a kv
 | [],_,_=>⟨none,rfl,rfl⟩
 |(k,v)::r,i,j=>by
  by_cases h:a=k
  . exact⟨some (j,v),by simp[J9,Instr.findNow,c,h],by simp[Dw,h]⟩
  . obtain⟨q,e,g⟩:=P6 c a r (i+1) (j+1);exact⟨q,by simp[J9,Instr.findNow,c,h,e],by rw[g];simp[Dw,h]⟩
theorem Mg (K:MKey P kt f) (s:P.underlying t=some (.map kt et)) (h:Co f w g kv) {a:α} (o:Dw a kv=none) (v:Value):
 ∃w',(Instr.mapUpdate t (.map (some g)) (f a) v).run P w=.ok () w'/\Co f w' g (kv++ [(a,v)])/\w.grownBy w' (some g)/\w'.heap.size=w.heap.size:=by
 obtain⟨d,n,r⟩:=K.under;obtain⟨q,j,l⟩:=P6 r a kv 0 0;rw[o]at l;have p:q=none:=by cases q<;>simp_all
 subst p;have b:=K.check false w a;have c:(Instr.findKey kt (f a) (J9 f kv 0)).run P w=.ok none w:=by simp[Instr.findKey,Sem.run_bind,run_underlying n,j]
 have e:=h.lt;refine⟨{w with heap:=w.heap.setIfInBounds g (.map ((J9 f kv 0).toArray.push {key:=f a,val:=v,born:=kv.length}) (kv.length+1))}, ?_, ?_, ?_, ?_⟩
 . have m:w.heap[g]? =some (.map (J9 f kv 0).toArray kv.length):=h;unfold Instr.mapUpdate;simp only[Sem.run_bind,run_underlying s,Result.andThen,getObj,Sem.run,m,b,c,setObj]
 . unfold Co;simp[e,O4]
 . exact⟨rfl,rfl,rfl,by simp,fun k u i=>by simp only[Array.getElem?_setIfInBounds];rw[if_neg];rintro rfl;exact i rfl⟩
 . simp
theorem Ce {c:Array Oper} {rest:List Oper} {o:Oper} {a:Act} {Q:Exit->Act->World->Prop} (j:o.guard=none) (m x u:Operand) (t:TypeId) (e:o.op=Op.insert t m x u)
 (K:MKey P kt f) (p:P.underlying t=some (.map kt et)) (l:a.eval m=.map (some g)) (h:Co f w g kv) {k:α} {v:Value} (r:a.eval x=f k) (q:a.eval u=v) (n:Dw k kv=none)
 (i: ∀w',Co f w' g (kv++ [(k,v)])->w.grownBy w' (some g)->w'.heap.size=w.heap.size->wpList P c Q rest (a.put o.dst undef) w'):wpList P c Q (o::rest) a w:=by
 refine wpList_plain j fun A d=> ?_;obtain⟨w',b,s,y,z⟩:=Mg K p h n v;unfold Oper.wp;simp[execOp,e,l,r,q,b,Result.andThen];exact d _ _ (i w' s y z)
theorem Jp (K:MKey P kt f) (r:P.underlying t=some (.map kt et)) (h:Co f w g kv) (a:α) {z:Value} (s: ∀w,(zeroValue et).run P w=.ok z w) (c:Bool):
 (Instr.lookup t (.map (some g)) (f a) c).run P w=.ok (if c then .tuple #[(Dw a kv).getD z,.bool (Dw a kv).isSome]else(Dw a kv).getD z) w:=by
 obtain⟨d,n,o⟩:=K.under;obtain⟨q,k,l⟩:=P6 o a kv 0 0;have b:=fun e=>K.check e w a;have j:(Instr.findKey kt (f a) (J9 f kv 0)).run P w=.ok q w:=by simp[Instr.findKey,Sem.run_bind,run_underlying n,k]
 have m:w.heap[g]? =some (.map (J9 f kv 0).toArray kv.length):=h;unfold Instr.lookup;simp only[Sem.run_bind,run_underlying r,Result.andThen,getObj,Sem.run,m]
 cases q with
 |none=>
  have:Dw a kv=none:=by cases hq:Dw a kv<;>simp_all
  rw[this]
  cases c<;>simp[b,j,s w,Result.andThen]
 |some p=>
  obtain⟨i,v⟩:=p;have:Dw a kv=some v:=by rw[<-l];rfl
  rw[this]
  cases c<;>simp[b,j]
end
theorem Y8 {t:List UInt8} {s:ByteArray}:(t==s.toList)=decide (t=s.data.toList):=by
 rw[ByteArray.toList_eq,Bool.eq_iff_iff];simp
end Go.Proofs.YtjgfchcldhmjcaaGreatDoor
