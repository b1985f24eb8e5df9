/- Parts: Words for memory: slices that read as lists, blocks known whole, append of any source (the kit's own words, copied as its page says). No condition. -/
import Derived.WalkKit
import Derived.Below
import Derived.Laws.OwnMore
import Derived.Deep.AppendLies
import Derived.Deep.Draws
import Derived.Laws.Rows
import Derived.Maps.AppendAt
import Derived.RegionTactic
import Derived.OwnWalk
namespace Go.Proofs.YtobmaegpfbheoaaGreatDoor
open Go.RowKit
inductive D where
 |leaf (v:Value)
 |agg (l:List D)
 |row (s:Nat) (l:List D)
mutual
def D.cells:D->Nat
 | .leaf _=>1
 | .agg l=>Fz l
 | .row _ _=>1
def Fz:List D->Nat
 | []=>0
 |d::r=>d.cells+Fz r
end
mutual
def Ag (w:World) (B:Nat):D->List Value->Prop
 | .leaf v,cs=>cs= [v]/\v.oneCell'=true
 | .agg l,cs=>Ae w B l cs
 | .row s l,cs=> ∃a c,cs= [.slice a l.length c]/\(∀d ∈ l,d.cells=s)/\ ∃ns,Ae w B l ns/\(l= []\/ ∃g off,a=some ⟨g,off,none⟩/\g<B/\ ∀j u,ns[j]? =some u->w.cell? ⟨g,off+j,none⟩=some u)
def Ae (w:World) (B:Nat):List D->List Value->Prop
 | [],cs=>cs= []
 |d::r,cs=> ∃c1 c2,cs=c1++c2/\Ag w B d c1/\Ae w B r c2
end
theorem D.ind {p:D->Prop} (h0: ∀v,p (.leaf v)) (h1: ∀l,(∀d ∈ l,p d)->p (.agg l)) (h2: ∀s l,(∀d ∈ l,p d)->p (.row s l)): ∀d,p d:=by
 intro d;refine D.rec (motive_1:=p) (motive_2:=fun l=> ∀d ∈ l,p d) h0 h1 h2 ?_ ?_ d
 . intro d hd
   cases hd
 . intro d r hd hr x hx;rcases List.mem_cons.1 hx with rfl|hx
   . exact hd
   . exact hr x hx
theorem Ae.len_of {w:World} {B:Nat}: ∀{l:List D},(∀d ∈ l,∀cs,Ag w B d cs->cs.length=d.cells/\ ∀u ∈ cs,u.oneCell'=true)-> ∀{cs},Ae w B l cs->cs.length=Fz l/\ ∀u ∈ cs,u.oneCell'=true
 | [],_,cs,h=>by
   have:cs= []:=h;subst this;exact⟨rfl,fun u hu=>by cases hu⟩
 |d::r,ih,cs,h=>by
  obtain⟨c1,c2,rfl,h1,h2⟩:=h;obtain⟨a1,a2⟩:=ih d (by simp) c1 h1;obtain⟨b1,b2⟩:=Ae.len_of (fun x hx=>ih x (by simp[hx])) h2;refine⟨by simp only[List.length_append,Fz,a1,b1],fun u hu=> ?_⟩;rcases List.mem_append.1 hu with hu|hu
  . exact a2 u hu
  . exact b2 u hu
theorem Ag.len {w:World} {B:Nat}: ∀{d:D} {cs},Ag w B d cs->cs.length=d.cells/\ ∀u ∈ cs,u.oneCell'=true:=by
 intro d;refine D.ind (p:=fun d=> ∀{cs},Ag w B d cs->cs.length=d.cells/\ ∀u ∈ cs,u.oneCell'=true) ?_ ?_ ?_ d
 . intro v cs h;obtain⟨rfl,hv⟩:=h;exact⟨rfl,fun u hu=>by simp at hu;rw[hu];exact hv⟩
 . intro l ih cs h;exact Ae.len_of (fun d hd _=>ih d hd) h
 . intro s l _ cs h;obtain⟨a,c,rfl,_⟩:=h;exact⟨rfl,fun u hu=>by simp at hu;rw[hu];rfl⟩
theorem Ae.len {w:World} {B:Nat} {l:List D} {cs:List Value} (h:Ae w B l cs):cs.length=Fz l/\ ∀u ∈ cs,u.oneCell'=true:=Ae.len_of (fun _ _ _ hd=>hd.len) h
theorem Gw {s:Nat}: ∀{l:List D},(∀d ∈ l,d.cells=s)->Fz l=l.length*s
 | [],_=>by simp[Fz]
 |d::r,h=>by
  have h1:=h d (by simp);have h2:=Gw (l:=r) (fun x hx=>h x (by simp[hx]));simp only[Fz,List.length_cons,Nat.add_mul,Nat.one_mul];omega
theorem Ae.imp {w w':World} {B B':Nat}: ∀{l:List D},(∀d ∈ l,∀cs,Ag w B d cs->Ag w' B' d cs)-> ∀{cs},Ae w B l cs->Ae w' B' l cs
 | [],_,_,h=>h
 |d::r,ih,cs,h=>by
  obtain⟨c1,c2,e,h1,h2⟩:=h;exact⟨c1,c2,e,ih d (by simp) c1 h1,Ae.imp (fun x hx=>ih x (by simp[hx])) h2⟩
theorem Ag.imp {w w':World} {B B':Nat} (hB:B<=B') (hk: ∀p:Addr,p.block<B->w'.cell? p=w.cell? p): ∀{d:D} {cs},Ag w B d cs->Ag w' B' d cs:=by
 intro d;refine D.ind (p:=fun d=> ∀{cs},Ag w B d cs->Ag w' B' d cs) ?_ ?_ ?_ d
 . intro v cs h;exact h
 . intro l ih cs h;exact Ae.imp (fun d hd _=>ih d hd) h
 . intro s l ih cs h;obtain⟨a,c,e,hs,ns,h1,h2⟩:=h;refine⟨a,c,e,hs,ns,Ae.imp (fun d hd _=>ih d hd) h1, ?_⟩;rcases h2 with h2|⟨g,off,ea,hg,hcell⟩
   . exact .inl h2
   . exact .inr ⟨g,off,ea,by omega,fun j u hu=>(hk _ hg).trans (hcell j u hu)⟩
theorem Ag.keep {w w':World} {B:Nat} {d:D} {cs:List Value} (h:Ag w B d cs) (hk: ∀p:Addr,p.block<B->w'.cell? p=w.cell? p):Ag w' B d cs:=h.imp (Nat.le_refl _) hk
theorem Ag.below {w w':World} {B:Nat} {d:D} {cs:List Value} (h:Ag w B d cs) (hb:Below B w w'):Ag w' B d cs:=h.keep fun _ hp=>hb.cell hp
theorem Ag.more {w:World} {B B':Nat} {d:D} {cs:List Value} (h:Ag w B d cs) (hB:B<=B'):Ag w B' d cs:=h.imp hB fun _ _=>rfl
theorem Ae.keep {w w':World} {B:Nat} {l:List D} {cs:List Value} (h:Ae w B l cs) (hk: ∀p:Addr,p.block<B->w'.cell? p=w.cell? p):Ae w' B l cs:=Ae.imp (fun _ _ _ hd=>hd.keep hk) h
theorem Ae.below {w w':World} {B:Nat} {l:List D} {cs:List Value} (h:Ae w B l cs) (hb:Below B w w'):Ae w' B l cs:=h.keep fun _ hp=>hb.cell hp
theorem Ae.more {w:World} {B B':Nat} {l:List D} {cs:List Value} (h:Ae w B l cs) (hB:B<=B'):Ae w B' l cs:=Ae.imp (fun _ _ _ hd=>hd.more hB) h
theorem Ag.later {w w':World} {d:D} {cs:List Value} (h:Ag w w.heap.size d cs) (hb:Below w.heap.size w w'):Ag w' w'.heap.size d cs:=(h.below hb).more hb.size
theorem Ae.later {w w':World} {l:List D} {cs:List Value} (h:Ae w w.heap.size l cs) (hb:Below w.heap.size w w'):Ae w' w'.heap.size l cs:=(h.below hb).more hb.size
theorem Ae.app {w:World} {B:Nat}: ∀{a b:List D} {ns ms:List Value},Ae w B a ns->Ae w B b ms->Ae w B (a++b) (ns++ms)
 | [],b,ns,ms,h,h'=>by
   have:ns= []:=h;subst this;exact h'
 |d::r,b,ns,ms,h,h'=>by
  obtain⟨c1,c2,rfl,h1,h2⟩:=h;exact⟨c1,c2++ms,by simp,h1,Ae.app h2 h'⟩
theorem Ae.one {w:World} {B:Nat} {d:D} {cs:List Value} (h:Ag w B d cs):Ae w B [d] cs:=⟨cs, [],by simp,h,rfl⟩
theorem Ae.snoc {w:World} {B:Nat} {l:List D} {d:D} {ns cs:List Value} (h:Ae w B l ns) (hd:Ag w B d cs):Ae w B (l++ [d]) (ns++cs):=h.app (Ae.one hd)
theorem Ae.split {w:World} {B s:Nat}: ∀{l:List D} {ns:List Value} (k:Nat),(∀d ∈ l,d.cells=s)->Ae w B l ns->Ae w B (l.take k) (ns.take (k*s))/\Ae w B (l.drop k) (ns.drop (k*s))
 | [],ns,k,_,h=>by
   have:ns= []:=h;subst this;simp[Ae]
 |d::r,ns,0,_,h=>by
  simp only[List.take_zero,Nat.zero_mul,List.drop_zero];exact⟨rfl,h⟩
 |d::r,ns,k+1,hs,h=>by
  obtain⟨c1,c2,rfl,h1,h2⟩:=h;obtain⟨a,b⟩:=Ae.split k (fun x hx=>hs x (by simp[hx])) h2;have hl:c1.length=s:=h1.len.1.trans (hs d (by simp));have e1:(c1++c2).take ((k+1)*s)=c1++c2.take (k*s):=by
   rw[List.take_append,List.take_of_length_le (by rw[hl,Nat.add_mul];omega),hl,Nat.add_mul,Nat.one_mul,Nat.add_sub_cancel]
  have e2:(c1++c2).drop ((k+1)*s)=c2.drop (k*s):=by
   rw[List.drop_append,List.drop_eq_nil_of_le (by rw[hl,Nat.add_mul];omega),hl,Nat.add_mul,Nat.one_mul,Nat.add_sub_cancel,List.nil_append]
  rw[e1,e2];exact⟨⟨c1,c2.take (k*s),rfl,h1,a⟩,b⟩
theorem Ae.at_ {w:World} {B s:Nat} {l:List D} {ns:List Value} (hs: ∀d ∈ l,d.cells=s) (h:Ae w B l ns) {i:Nat} {d:D} (hi:l[i]? =some d):
 ∃cs,Ag w B d cs/\cs.length=s/\ ∀j u,cs[j]? =some u->ns[i*s+j]? =some u:=by
 obtain⟨_,h2⟩:=Ae.split i hs h;obtain⟨hlt,rfl⟩:=List.getElem?_eq_some_iff.1 hi;rw[List.drop_eq_getElem_cons hlt]at h2;obtain⟨c1,c2,e,h3,_⟩:=h2;have hl:c1.length=s:=h3.len.1.trans (hs _ (List.getElem_mem hlt));refine⟨c1,h3,hl,fun j u hu=> ?_⟩;have h5:=(List.getElem?_eq_some_iff.1 hu).1;have h4:(ns.drop (i*s))[j]? =some u:=by
  rw[e,List.getElem?_append_left h5];exact hu
 rwa [List.getElem?_drop]at h4
theorem Ag.at_ {w:World} {B s:Nat} {l:List D} {a:Option Addr} {n c:Nat} (h:Ag w B (.row s l) [.slice a n c]) {i:Nat} {d:D} (hi:l[i]? =some d):
 ∃g off,a=some ⟨g,off,none⟩/\g<B/\ ∃cs,Ag w B d cs/\cs.length=s/\ ∀j u,cs[j]? =some u->w.cell? ⟨g,off+i*s+j,none⟩=some u:=by
 obtain⟨a',c',e,hs,ns,h1,h2⟩:=h;simp only[List.cons.injEq,Value.slice.injEq,and_true]at e;obtain⟨rfl,rfl,rfl⟩:=e;rcases h2 with rfl|⟨g,off,ea,hg,hcell⟩
 . simp at hi
 . obtain⟨cs,h3,h4,h5⟩:=h1.at_ hs hi;exact⟨g,off,ea,hg,cs,h3,h4,fun j u hu=>by rw[Nat.add_assoc];exact hcell _ u (h5 j u hu)⟩
theorem Ag.row_len {w:World} {B s:Nat} {l:List D} {a:Option Addr} {n c:Nat} (h:Ag w B (.row s l) [.slice a n c]):n=l.length:=by
 obtain⟨a',c',e,_⟩:=h;simp only[List.cons.injEq,Value.slice.injEq,and_true]at e;obtain⟨rfl,rfl,rfl⟩:=e;exact rfl
def Ax (b:Nat) (w':World) (d:D) (cs:List Value):Prop:=
 ∀w'':World,w'.heap.size<=w''.heap.size->(∀p:Addr,b<=p.block->p.block<w'.heap.size->w''.cell? p=w'.cell? p)->Ag w'' w'.heap.size d cs
def Az (b:Nat) (w':World) (l:List D) (cs:List Value):Prop:=
 ∀w'':World,w'.heap.size<=w''.heap.size->(∀p:Addr,b<=p.block->p.block<w'.heap.size->w''.cell? p=w'.cell? p)->Ae w'' w'.heap.size l cs
theorem Ax.now {b:Nat} {w':World} {d:D} {cs:List Value} (h:Ax b w' d cs):Ag w' w'.heap.size d cs:=h w' (Nat.le_refl _) fun _ _ _=>rfl
theorem Az.now {b:Nat} {w':World} {l:List D} {cs:List Value} (h:Az b w' l cs):Ae w' w'.heap.size l cs:=h w' (Nat.le_refl _) fun _ _ _=>rfl
theorem Az.nil (b:Nat) (w':World):Az b w' [] []:=fun _ _ _=>rfl
theorem Az.keep {b:Nat} {wr w':World} {l:List D} {ns:List Value} (h:Az b wr l ns) (hs:wr.heap.size<=w'.heap.size) (hk: ∀p:Addr,b<=p.block->p.block<wr.heap.size->w'.cell? p=wr.cell? p):Az b w' l ns:=
 fun w'' h1 h2=>Ae.more (h w'' (Nat.le_trans hs h1) (fun p p1 p2=>(h2 p p1 (Nat.lt_of_lt_of_le p2 hs)).trans (hk p p1 p2))) hs
theorem Ax.keep {b b':Nat} {wr w':World} {d:D} {ns:List Value} (h:Ax b wr d ns) (hb:b'<=b) (hs:wr.heap.size<=w'.heap.size) (hk: ∀p:Addr,b<=p.block->p.block<wr.heap.size->w'.cell? p=wr.cell? p):Ax b' w' d ns:=
 fun w'' h1 h2=>Ag.more (h w'' (Nat.le_trans hs h1) (fun p p1 p2=>(h2 p (Nat.le_trans hb p1) (Nat.lt_of_lt_of_le p2 hs)).trans (hk p p1 p2))) hs
theorem Ax.later {b:Nat} {w w':World} {d:D} {ns:List Value} (h:Ax b w d ns) (hb:Below w.heap.size w w'):Ax b w' d ns:=h.keep (Nat.le_refl _) hb.size fun _ _ p2=>hb.cell p2
theorem Az.later {b:Nat} {w w':World} {l:List D} {ns:List Value} (h:Az b w l ns) (hb:Below w.heap.size w w'):Az b w' l ns:=h.keep hb.size fun _ _ p2=>hb.cell p2
theorem Az.row {b s:Nat} {w':World} {l:List D} {ns:List Value} {a:Option Addr} {c:Nat} (h:Az b w' l ns) (hs: ∀d ∈ l,d.cells=s)
 (ha:l= []\/ ∃g off,a=some ⟨g,off,none⟩/\b<=g/\g<w'.heap.size/\ ∀j u,ns[j]? =some u->w'.cell? ⟨g,off+j,none⟩=some u):Ax b w' (.row s l) [.slice a l.length c]:=by
 intro w'' h1 h2;refine⟨a,c,rfl,hs,ns,h w'' h1 h2, ?_⟩;rcases ha with ha|⟨g,off,e,hbg,hg,hcell⟩
 . exact .inl ha
 . exact .inr ⟨g,off,e,hg,fun j u hu=>(h2 _ hbg hg).trans (hcell j u hu)⟩
theorem J8 (a:Addr) (n:Nat):(a.add n).block=a.block:=by unfold Addr.add;split<;>rfl
theorem Uv (a:Addr) (i j:Nat):(a.add i).add j=a.add (i+j):=by
 unfold Addr.add;by_cases hi:i=0<;>by_cases hj:j=0<;>simp[hi,hj,Nat.add_assoc]
def Bc (w:World) (B size:Nat) (A:Option Addr) (n:Nat) (xs:List Value):Prop:=
 xs.length=n*size/\(0<n-> ∃ad,A=some ad/\ad.block<B/\ ∀j u,xs[j]? =some u->w.cell? (ad.add j)=some u)
section
variable {w w':World} {B B' size n:Nat} {A:Option Addr} {xs:List Value}
theorem Bc.at_ {k:Nat} (h:Bc w B 1 A n xs) (hk:k<n): ∃ad u,A=some ad/\ad.block<B/\xs[k]? =some u/\w.cell? (ad.add k)=some u:=by
 obtain⟨ad,e,hb,hc⟩:=h.2 (by omega);have hl:k<xs.length:=by have:=h.1;omega
 exact⟨ad,xs[k],e,hb,List.getElem?_eq_getElem hl,hc k _ (List.getElem?_eq_getElem hl)⟩
theorem Bc.keep (h:Bc w B size A n xs) (hk: ∀p:Addr,p.block<B->w'.cell? p=w.cell? p):Bc w' B size A n xs:=
 ⟨h.1,fun hn=>by
   obtain⟨ad,e,hb,hc⟩:=h.2 hn;exact⟨ad,e,hb,fun j u hu=>(hk _ (by rw[J8];exact hb)).trans (hc j u hu)⟩⟩
theorem Bc.more (h:Bc w B size A n xs) (hB:B<=B'):Bc w B' size A n xs:=
 ⟨h.1,fun hn=>by
   obtain⟨ad,e,hb,hc⟩:=h.2 hn;exact⟨ad,e,by omega,hc⟩⟩
theorem Bc.below (h:Bc w B size A n xs) (hb:Below B w w'):Bc w' B size A n xs:=h.keep fun _ hp=>hb.cell hp
theorem Bc.drew (h:Bc w B size A n xs):Bc w.drew B size A n xs:=h
theorem Bc.drewN (h:Bc w B size A n xs) (k:Nat):Bc (w.drewN k) B size A n xs:=h
theorem Bc.alloc (h:Bc w B size A n xs) (hB:B<=w.heap.size) (o:Obj):Bc (w.alloc o) B size A n xs:=h.keep fun p hp=>World.cell?_alloc_lt w o p (by omega)
theorem Bc.setCell (h:Bc w B size A n xs) {p:Addr} (hB:B<=p.block) (u:Value):Bc (w.setCell p u) B size A n xs:=
 h.keep fun q hq=>World.cell?_setCell_other w p q u (fun e=>by subst e;omega)
theorem Bc.grown (h:Bc w B size A n xs) {row:Option Nat} (hg:w.grownBy w' row) (hB:B<=w.heap.size) (hr: ∀g,row=some g->B<=g):Bc w' B size A n xs:=
 h.keep fun p hp=>World.cell?_of_block (hg.block p.block (by omega) (fun e=>by have:=hr _ e.symm;omega))
theorem Bc.cut (h:Bc w B size A n xs) {k cap:Nat} (hk:k<=n) (hc:n<=cap):
 Bc w B size (if cap=k then A else A.map (·.add (k*size))) (n - k) (xs.drop (k*size)):=by
 refine⟨by rw[List.length_drop,h.1,Nat.sub_mul],fun hn=> ?_⟩;obtain⟨ad,rfl,hb,hcell⟩:=h.2 (by omega);rw[if_neg (by omega)];refine⟨ad.add (k*size),rfl,by rw[J8];exact hb,fun j u hu=> ?_⟩;rw[Uv];exact hcell _ u (by rw[<-hu,List.getElem?_drop])
end
def Aj (w:World) (g:Nat) (t:TypeId) (cs:Array Value):Prop:=w.heap[g]? =some (.cells cs t (0,0))
section
variable {w w':World} {g:Nat} {t:TypeId} {cs:Array Value}
theorem Aj.lt (h:Aj w g t cs):g<w.heap.size:=by
 rcases Nat.lt_or_ge g w.heap.size with hlt|hge
 . exact hlt
 . unfold Aj at h;rw[Array.getElem?_eq_none hge]at h;cases h
theorem Aj.cell (h:Aj w g t cs) (i:Nat):w.cell? ⟨g,i,none⟩=cs[i]? :=cell_of_row w g i cs t (0,0) h
theorem Aj.frozen (h:Aj w g t cs) (i:Nat):w.frozen? ⟨g,i,none⟩=false:=by
 unfold Aj at h;simp[World.frozen?,h]
theorem Aj.new (w:World) (t:TypeId) (cs:Array Value):Aj (w.alloc (.cells cs t)) w.heap.size t cs:=heap_alloc_new w _
theorem Aj.drew (h:Aj w g t cs):Aj w.drew g t cs:=h
theorem Aj.drewN (h:Aj w g t cs) (n:Nat):Aj (w.drewN n) g t cs:=h
theorem Aj.alloc (h:Aj w g t cs) (o:Obj):Aj (w.alloc o) g t cs:=(Below.heap_alloc w o g h.lt).trans h
theorem Aj.set_ (h:Aj w g t cs) (i:Nat) (u:Value):Aj (w.setCell ⟨g,i,none⟩ u) g t (cs.setIfInBounds i u):=by
 unfold Aj at h ⊢;simp[World.setCell,Array.getElem?_modify,h]
theorem Aj.far (h:Aj w g t cs) {p:Addr} (hp:g≠p.block) (u:Value):Aj (w.setCell p u) g t cs:=(Below.heap_setCell w p u g hp).trans h
theorem Aj.below {B:Nat} (h:Aj w g t cs) (hb:Below B w w') (hg:g<B):Aj w' g t cs:=(hb.block g hg).trans h
theorem Aj.grown {row:Option Nat} (h:Aj w g t cs) (hb:w.grownBy w' row) (hg:some g≠row):Aj w' g t cs:=(hb.block g h.lt hg).trans h
end
section
variable {P:Program} (w:World)
theorem Kt (base:Nat) (t ty e:TypeId) (i:TypeInfo) (size:Nat) (ht:P.underlying t=some (.slice e)) (hi:P.info? e=some i)
 (v:Value) (n:Nat) (xs:List Value) (hown:w.ownsRow base e size v n xs) (c:Nat):(Builtin.append_ #[t,t] ty #[v,.slice none 0 c]).run P w=.ok v w:=by
 rcases hown.2 with⟨rfl,rfl⟩|⟨g,cap,cur,rfl,_,_,hnc,_⟩
 . simp[Builtin.append_,run_underlying ht,sizeOf,typeInfo,hi,Builtin.lenOf,Builtin.firstCells]
 . simp[Builtin.append_,run_underlying ht,sizeOf,typeInfo,hi,Builtin.lenOf,Builtin.firstCells,hnc,storeCells]
theorem Dw (base:Nat) (t ty e:TypeId) (i:TypeInfo) (z:Value) (size bytes:Nat) (ht:P.underlying t=some (.slice e)) (hi:P.info? e=some i) (hz:i.zero=some z)
 (hsize:i.size=size) (hby:i.bytes=bytes) (hzs:z.cells.size=size) (hsz:0<size)
 (v:Value) (n:Nat) (xs:List Value) (hown:w.ownsRow base e size v n xs)
 (B:Nat) (A:Option Addr) (m c:Nat) (news:List Value) (hr:Bc w B size A m news) (h1: ∀u ∈ news,u.oneCell'=true)
 (h63:n+m<=maxLen) (hbytes:(n+m)*bytes<=140737488355328) (hbase:base<=w.heap.size):
 ∃v' w',(Builtin.append_ #[t,t] ty #[v,.slice A m c]).run P w=.ok v' w'/\w'.ownsRow base e size v' (n+m) (xs++news)/\w.grownBy w' v.ownBlock/\
  (v'.ownBlock=v.ownBlock\/v'.ownBlock=some w.heap.size):=by
 rcases A with _|ad
 . have hm:m=0:=by
    rcases Nat.eq_zero_or_pos m with h0|h0
    . exact h0
    . obtain⟨ad,h,_⟩:=hr.2 h0
      cases h
   subst hm;have hn:news= []:=List.eq_nil_of_length_eq_zero (by simpa using hr.1);subst hn;exact⟨v,w,Kt w base t ty e i size ht hi v n xs hown c,by simpa using hown,World.grownBy.refl w _,.inl rfl⟩
 . have hcells: ∀j u,news[j]? =some u->w.cell? (ad.add j)=some u:=by
    intro j u hu;rcases Nat.eq_zero_or_pos m with h0|h0
    . subst h0;have hn:news= []:=List.eq_nil_of_length_eq_zero (by simpa using hr.1);subst hn;simp at hu
    . obtain⟨ad',h,_,hc⟩:=hr.2 h0
      injection h with h
      subst h;exact hc j u hu
   obtain⟨v',w',hrun,h2,h3,_,h5⟩:=run_append_own_at (P:=P) w base t ty e i z size bytes ht hi hz hsize hby hzs hsz v n xs hown ad m c news hr.1 hcells h1 h63 hbytes hbase;exact⟨v',w',hrun,h2,h3,h5⟩
theorem Po {o:Oper} {a:Act} {K:Act->World->Prop} {Q:Exit->Act->World->Prop} (s x:Operand) (t:TypeId)
 (ho:o.op=.call {callee:=.builtin .append,args:= #[s,x],argTypes:= #[t,t]})
 (base:Nat) (e:TypeId) (i:TypeInfo) (z:Value) (size bytes:Nat) (ht:P.underlying t=some (.slice e)) (hi:P.info? e=some i) (hz:i.zero=some z)
 (hsize:i.size=size) (hby:i.bytes=bytes) (hzs:z.cells.size=size) (hsz:0<size)
 (v:Value) (n:Nat) (xs:List Value) (hs:a.eval s=v) (hown:w.ownsRow base e size v n xs)
 (B:Nat) (A:Option Addr) (m c:Nat) (news:List Value) (hx:a.eval x=.slice A m c) (hr:Bc w B size A m news) (h1: ∀u ∈ news,u.oneCell'=true)
 (h63:n+m<=maxLen) (hbytes:(n+m)*bytes<=140737488355328) (hbase:base<=w.heap.size)
 (h: ∀v' w',w'.ownsRow base e size v' (n+m) (xs++news)->w.grownBy w' v.ownBlock->(v'.ownBlock=v.ownBlock\/v'.ownBlock=some w.heap.size)->K (a.put o.dst v') w'):o.wp P a w K Q:=by
 obtain⟨v',w',hrun,h2,h3,h4⟩:=Dw (P:=P) w base t o.type e i z size bytes ht hi hz hsize hby hzs hsz v n xs hown B A m c news hr h1 h63 hbytes hbase;unfold Oper.wp execOp;simp only[ho,resolve,invoke,builtin,Sem.run_bind,Sem.run_pure,Result.andThen_ok,List.map_toArray,List.map_cons,List.map_nil,hs,hx,hrun];exact h v' w' h2 h3 h4
theorem K2 {ops:Array Oper} {rest:List Oper} {o:Oper} {a:Act} {Q:Exit->Act->World->Prop} (hgd:o.guard=none) (s x:Operand) (t:TypeId)
 (ho:o.op=.call {callee:=.builtin .append,args:= #[s,x],argTypes:= #[t,t]})
 (base:Nat) (e:TypeId) (i:TypeInfo) (z:Value) (size bytes:Nat) (ht:P.underlying t=some (.slice e)) (hi:P.info? e=some i) (hz:i.zero=some z)
 (hsize:i.size=size) (hby:i.bytes=bytes) (hzs:z.cells.size=size) (hsz:0<size)
 (v:Value) (n:Nat) (xs:List Value) (hs:a.eval s=v) (hown:w.ownsRow base e size v n xs)
 (B:Nat) (A:Option Addr) (m c:Nat) (news:List Value) (hx:a.eval x=.slice A m c) (hr:Bc w B size A m news) (h1: ∀u ∈ news,u.oneCell'=true)
 (h63:n+m<=maxLen) (hbytes:(n+m)*bytes<=140737488355328) (hbase:base<=w.heap.size)
 (h: ∀v' w',w'.ownsRow base e size v' (n+m) (xs++news)->w.grownBy w' v.ownBlock->(v'.ownBlock=v.ownBlock\/v'.ownBlock=some w.heap.size)->wpList P ops Q rest (a.put o.dst v') w'):wpList P ops Q (o::rest) a w:=
 wpList_plain hgd fun _ hK=>Po w s x t ho base e i z size bytes ht hi hz hsize hby hzs hsz v n xs hs hown B A m c news hx hr h1 h63 hbytes hbase fun v' w' h2 h3 h4=>hK _ _ (h v' w' h2 h3 h4)
end
end Go.Proofs.YtobmaegpfbheoaaGreatDoor
