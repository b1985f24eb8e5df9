/- Parts: Rows that a call builds by append, whose data may share old memory. Plain. No condition. -/
import Derived.WalkKit
import Derived.Below
import Derived.Laws.OwnMore
import Derived.Deep.AppendLies
import Derived.Deep.Draws
import Derived.Laws.Rows
import Derived.Maps.AppendAt
import Derived.RegionTactic
import Derived.OwnWalk
import Derived.RangeFuncNested
import Derived.RangeFuncBound
import Derived.RangeFuncCalls
import Derived.RangeFuncLeaves
import Derived.OwnWalkIn
import Derived.TacticsInMore
namespace Go.Proofs.YtkmcjfkokoidcaaGreatDoor
open Go.RowKit
inductive D where
 |leaf (v:Value)
 |agg (l:List D)
 |row (s:Nat) (l:List D)
mutual
def D.cells:D->Nat
 | .leaf _=>1
 | .agg l=>Js l
 | .row _ _=>1
def Js:List D->Nat
 | []=>0
 |d::r=>d.cells+Js r
end
mutual
def Ah (w:World) (B:Nat):D->List Value->Prop
 | .leaf v,cs=>cs= [v]/\v.oneCell'=true
 | .agg l,cs=>Ag w B l cs
 | .row s l,cs=> ∃a c,cs= [.slice a l.length c]/\(∀d ∈ l,d.cells=s)/\ ∃ns,Ag w B l ns/\(l= []\/ ∃g off,a=some ⟨g,off,none⟩/\g<B/\ ∀j u,ns[j]? =some u->w.cell? ⟨g,off+j,none⟩=some u)
def Ag (w:World) (B:Nat):List D->List Value->Prop
 | [],cs=>cs= []
 |d::r,cs=> ∃c1 c2,cs=c1++c2/\Ah w B d c1/\Ag w B r c2
end
theorem D.ind {p:D->Prop} (h0: ∀v,p (.leaf v)) (h1: ∀l,(∀d ∈ l,p d)->p (.agg l)) (h2: ∀s l,(∀d ∈ l,p d)->p (.row s l)): ∀d,p d:=by
 intro d;refine D.rec (motive_1:=p) (motive_2:=fun l=> ∀d ∈ l,p d) h0 h1 h2 ?_ ?_ d
 . intro d hd
   cases hd
 . intro d r hd hr x hx;rcases List.mem_cons.1 hx with rfl|hx
   . exact hd
   . exact hr x hx
theorem Ag.len_of {w:World} {B:Nat}: ∀{l:List D},(∀d ∈ l,∀cs,Ah w B d cs->cs.length=d.cells/\ ∀u ∈ cs,u.oneCell'=true)-> ∀{cs},Ag w B l cs->cs.length=Js l/\ ∀u ∈ cs,u.oneCell'=true
 | [],_,cs,h=>by
   have:cs= []:=h;subst this;exact⟨rfl,fun u hu=>by cases hu⟩
 |d::r,ih,cs,h=>by
  obtain⟨c1,c2,rfl,h1,h2⟩:=h;obtain⟨a1,a2⟩:=ih d (by simp) c1 h1;obtain⟨b1,b2⟩:=Ag.len_of (fun x hx=>ih x (by simp[hx])) h2;refine⟨by simp only[List.length_append,Js,a1,b1],fun u hu=> ?_⟩;rcases List.mem_append.1 hu with hu|hu
  . exact a2 u hu
  . exact b2 u hu
theorem Ah.len {w:World} {B:Nat}: ∀{d:D} {cs},Ah w B d cs->cs.length=d.cells/\ ∀u ∈ cs,u.oneCell'=true:=by
 intro d;refine D.ind (p:=fun d=> ∀{cs},Ah w B d cs->cs.length=d.cells/\ ∀u ∈ cs,u.oneCell'=true) ?_ ?_ ?_ d
 . intro v cs h;obtain⟨rfl,hv⟩:=h;exact⟨rfl,fun u hu=>by simp at hu;rw[hu];exact hv⟩
 . intro l ih cs h;exact Ag.len_of (fun d hd _=>ih d hd) h
 . intro s l _ cs h;obtain⟨a,c,rfl,_⟩:=h;exact⟨rfl,fun u hu=>by simp at hu;rw[hu];rfl⟩
theorem Ag.len {w:World} {B:Nat} {l:List D} {cs:List Value} (h:Ag w B l cs):cs.length=Js l/\ ∀u ∈ cs,u.oneCell'=true:=Ag.len_of (fun _ _ _ hd=>hd.len) h
theorem Fi {s:Nat}: ∀{l:List D},(∀d ∈ l,d.cells=s)->Js l=l.length*s
 | [],_=>by simp[Js]
 |d::r,h=>by
  have h1:=h d (by simp);have h2:=Fi (l:=r) (fun x hx=>h x (by simp[hx]));simp only[Js,List.length_cons,Nat.add_mul,Nat.one_mul];omega
theorem Ag.imp {w w':World} {B B':Nat}: ∀{l:List D},(∀d ∈ l,∀cs,Ah w B d cs->Ah w' B' d cs)-> ∀{cs},Ag w B l cs->Ag w' B' l cs
 | [],_,_,h=>h
 |d::r,ih,cs,h=>by
  obtain⟨c1,c2,e,h1,h2⟩:=h;exact⟨c1,c2,e,ih d (by simp) c1 h1,Ag.imp (fun x hx=>ih x (by simp[hx])) h2⟩
theorem Ah.imp {w w':World} {B B':Nat} (hB:B<=B') (hk: ∀p:Addr,p.block<B->w'.cell? p=w.cell? p): ∀{d:D} {cs},Ah w B d cs->Ah w' B' d cs:=by
 intro d;refine D.ind (p:=fun d=> ∀{cs},Ah w B d cs->Ah w' B' d cs) ?_ ?_ ?_ d
 . intro v cs h;exact h
 . intro l ih cs h;exact Ag.imp (fun d hd _=>ih d hd) h
 . intro s l ih cs h;obtain⟨a,c,e,hs,ns,h1,h2⟩:=h;refine⟨a,c,e,hs,ns,Ag.imp (fun d hd _=>ih d hd) h1, ?_⟩;rcases h2 with h2|⟨g,off,ea,hg,hcell⟩
   . exact .inl h2
   . exact .inr ⟨g,off,ea,by omega,fun j u hu=>(hk _ hg).trans (hcell j u hu)⟩
theorem Ah.keep {w w':World} {B:Nat} {d:D} {cs:List Value} (h:Ah w B d cs) (hk: ∀p:Addr,p.block<B->w'.cell? p=w.cell? p):Ah w' B d cs:=h.imp (Nat.le_refl _) hk
theorem Ah.below {w w':World} {B:Nat} {d:D} {cs:List Value} (h:Ah w B d cs) (hb:Below B w w'):Ah w' B d cs:=h.keep fun _ hp=>hb.cell hp
theorem Ah.more {w:World} {B B':Nat} {d:D} {cs:List Value} (h:Ah w B d cs) (hB:B<=B'):Ah w B' d cs:=h.imp hB fun _ _=>rfl
theorem Ag.keep {w w':World} {B:Nat} {l:List D} {cs:List Value} (h:Ag w B l cs) (hk: ∀p:Addr,p.block<B->w'.cell? p=w.cell? p):Ag w' B l cs:=Ag.imp (fun _ _ _ hd=>hd.keep hk) h
theorem Ag.below {w w':World} {B:Nat} {l:List D} {cs:List Value} (h:Ag w B l cs) (hb:Below B w w'):Ag w' B l cs:=h.keep fun _ hp=>hb.cell hp
theorem Ag.more {w:World} {B B':Nat} {l:List D} {cs:List Value} (h:Ag w B l cs) (hB:B<=B'):Ag w B' l cs:=Ag.imp (fun _ _ _ hd=>hd.more hB) h
theorem Ah.later {w w':World} {d:D} {cs:List Value} (h:Ah w w.heap.size d cs) (hb:Below w.heap.size w w'):Ah w' w'.heap.size d cs:=(h.below hb).more hb.size
theorem Ag.later {w w':World} {l:List D} {cs:List Value} (h:Ag w w.heap.size l cs) (hb:Below w.heap.size w w'):Ag w' w'.heap.size l cs:=(h.below hb).more hb.size
theorem Ag.app {w:World} {B:Nat}: ∀{a b:List D} {ns ms:List Value},Ag w B a ns->Ag w B b ms->Ag w B (a++b) (ns++ms)
 | [],b,ns,ms,h,h'=>by
   have:ns= []:=h;subst this;exact h'
 |d::r,b,ns,ms,h,h'=>by
  obtain⟨c1,c2,rfl,h1,h2⟩:=h;exact⟨c1,c2++ms,by simp,h1,Ag.app h2 h'⟩
theorem Ag.one {w:World} {B:Nat} {d:D} {cs:List Value} (h:Ah w B d cs):Ag w B [d] cs:=⟨cs, [],by simp,h,rfl⟩
theorem Ag.snoc {w:World} {B:Nat} {l:List D} {d:D} {ns cs:List Value} (h:Ag w B l ns) (hd:Ah w B d cs):Ag w B (l++ [d]) (ns++cs):=h.app (Ag.one hd)
theorem Ag.split {w:World} {B s:Nat}: ∀{l:List D} {ns:List Value} (k:Nat),(∀d ∈ l,d.cells=s)->Ag w B l ns->Ag w B (l.take k) (ns.take (k*s))/\Ag w B (l.drop k) (ns.drop (k*s))
 | [],ns,k,_,h=>by
   have:ns= []:=h;subst this;simp[Ag]
 |d::r,ns,0,_,h=>by
  simp only[List.take_zero,Nat.zero_mul,List.drop_zero];exact⟨rfl,h⟩
 |d::r,ns,k+1,hs,h=>by
  obtain⟨c1,c2,rfl,h1,h2⟩:=h;obtain⟨a,b⟩:=Ag.split k (fun x hx=>hs x (by simp[hx])) h2;have hl:c1.length=s:=h1.len.1.trans (hs d (by simp));have e1:(c1++c2).take ((k+1)*s)=c1++c2.take (k*s):=by
   rw[List.take_append,List.take_of_length_le (by rw[hl,Nat.add_mul];omega),hl,Nat.add_mul,Nat.one_mul,Nat.add_sub_cancel]
  have e2:(c1++c2).drop ((k+1)*s)=c2.drop (k*s):=by
   rw[List.drop_append,List.drop_eq_nil_of_le (by rw[hl,Nat.add_mul];omega),hl,Nat.add_mul,Nat.one_mul,Nat.add_sub_cancel,List.nil_append]
  rw[e1,e2];exact⟨⟨c1,c2.take (k*s),rfl,h1,a⟩,b⟩
theorem Ag.at_ {w:World} {B s:Nat} {l:List D} {ns:List Value} (hs: ∀d ∈ l,d.cells=s) (h:Ag w B l ns) {i:Nat} {d:D} (hi:l[i]? =some d):
 ∃cs,Ah w B d cs/\cs.length=s/\ ∀j u,cs[j]? =some u->ns[i*s+j]? =some u:=by
 obtain⟨_,h2⟩:=Ag.split i hs h;obtain⟨hlt,rfl⟩:=List.getElem?_eq_some_iff.1 hi;rw[List.drop_eq_getElem_cons hlt]at h2;obtain⟨c1,c2,e,h3,_⟩:=h2;have hl:c1.length=s:=h3.len.1.trans (hs _ (List.getElem_mem hlt));refine⟨c1,h3,hl,fun j u hu=> ?_⟩;have h5:=(List.getElem?_eq_some_iff.1 hu).1;have h4:(ns.drop (i*s))[j]? =some u:=by
  rw[e,List.getElem?_append_left h5];exact hu
 rwa [List.getElem?_drop]at h4
theorem Ah.at_ {w:World} {B s:Nat} {l:List D} {a:Option Addr} {n c:Nat} (h:Ah w B (.row s l) [.slice a n c]) {i:Nat} {d:D} (hi:l[i]? =some d):
 ∃g off,a=some ⟨g,off,none⟩/\g<B/\ ∃cs,Ah w B d cs/\cs.length=s/\ ∀j u,cs[j]? =some u->w.cell? ⟨g,off+i*s+j,none⟩=some u:=by
 obtain⟨a',c',e,hs,ns,h1,h2⟩:=h;simp only[List.cons.injEq,Value.slice.injEq,and_true]at e;obtain⟨rfl,rfl,rfl⟩:=e;rcases h2 with rfl|⟨g,off,ea,hg,hcell⟩
 . simp at hi
 . obtain⟨cs,h3,h4,h5⟩:=h1.at_ hs hi;exact⟨g,off,ea,hg,cs,h3,h4,fun j u hu=>by rw[Nat.add_assoc];exact hcell _ u (h5 j u hu)⟩
theorem Ah.row_len {w:World} {B s:Nat} {l:List D} {a:Option Addr} {n c:Nat} (h:Ah w B (.row s l) [.slice a n c]):n=l.length:=by
 obtain⟨a',c',e,_⟩:=h;simp only[List.cons.injEq,Value.slice.injEq,and_true]at e;obtain⟨rfl,rfl,rfl⟩:=e;exact rfl
def Br (b:Nat) (w':World) (d:D) (cs:List Value):Prop:=
 ∀w'':World,w'.heap.size<=w''.heap.size->(∀p:Addr,b<=p.block->p.block<w'.heap.size->w''.cell? p=w'.cell? p)->Ah w'' w'.heap.size d cs
def Gs (b:Nat) (w':World) (l:List D) (cs:List Value):Prop:=
 ∀w'':World,w'.heap.size<=w''.heap.size->(∀p:Addr,b<=p.block->p.block<w'.heap.size->w''.cell? p=w'.cell? p)->Ag w'' w'.heap.size l cs
theorem Br.now {b:Nat} {w':World} {d:D} {cs:List Value} (h:Br b w' d cs):Ah w' w'.heap.size d cs:=h w' (Nat.le_refl _) fun _ _ _=>rfl
theorem Gs.now {b:Nat} {w':World} {l:List D} {cs:List Value} (h:Gs b w' l cs):Ag w' w'.heap.size l cs:=h w' (Nat.le_refl _) fun _ _ _=>rfl
theorem Gs.nil (b:Nat) (w':World):Gs b w' [] []:=fun _ _ _=>rfl
theorem Gs.keep {b:Nat} {wr w':World} {l:List D} {ns:List Value} (h:Gs b wr l ns) (hs:wr.heap.size<=w'.heap.size) (hk: ∀p:Addr,b<=p.block->p.block<wr.heap.size->w'.cell? p=wr.cell? p):Gs b w' l ns:=
 fun w'' h1 h2=>Ag.more (h w'' (Nat.le_trans hs h1) (fun p p1 p2=>(h2 p p1 (Nat.lt_of_lt_of_le p2 hs)).trans (hk p p1 p2))) hs
theorem Br.keep {b b':Nat} {wr w':World} {d:D} {ns:List Value} (h:Br b wr d ns) (hb:b'<=b) (hs:wr.heap.size<=w'.heap.size) (hk: ∀p:Addr,b<=p.block->p.block<wr.heap.size->w'.cell? p=wr.cell? p):Br b' w' d ns:=
 fun w'' h1 h2=>Ah.more (h w'' (Nat.le_trans hs h1) (fun p p1 p2=>(h2 p (Nat.le_trans hb p1) (Nat.lt_of_lt_of_le p2 hs)).trans (hk p p1 p2))) hs
theorem Br.later {b:Nat} {w w':World} {d:D} {ns:List Value} (h:Br b w d ns) (hb:Below w.heap.size w w'):Br b w' d ns:=h.keep (Nat.le_refl _) hb.size fun _ _ p2=>hb.cell p2
theorem Gs.later {b:Nat} {w w':World} {l:List D} {ns:List Value} (h:Gs b w l ns) (hb:Below w.heap.size w w'):Gs b w' l ns:=h.keep hb.size fun _ _ p2=>hb.cell p2
theorem Gs.row {b s:Nat} {w':World} {l:List D} {ns:List Value} {a:Option Addr} {c:Nat} (h:Gs b w' l ns) (hs: ∀d ∈ l,d.cells=s)
 (ha:l= []\/ ∃g off,a=some ⟨g,off,none⟩/\b<=g/\g<w'.heap.size/\ ∀j u,ns[j]? =some u->w'.cell? ⟨g,off+j,none⟩=some u):Br b w' (.row s l) [.slice a l.length c]:=by
 intro w'' h1 h2;refine⟨a,c,rfl,hs,ns,h w'' h1 h2, ?_⟩;rcases ha with ha|⟨g,off,e,hbg,hg,hcell⟩
 . exact .inl ha
 . exact .inr ⟨g,off,e,hg,fun j u hu=>(h2 _ hbg hg).trans (hcell j u hu)⟩
theorem M7 (a:Addr) (n:Nat):(a.add n).block=a.block:=by unfold Addr.add;split<;>rfl
theorem Y6 (a:Addr) (i j:Nat):(a.add i).add j=a.add (i+j):=by
 unfold Addr.add;by_cases hi:i=0<;>by_cases hj:j=0<;>simp[hi,hj,Nat.add_assoc]
def A7 (w:World) (B size:Nat) (A:Option Addr) (n:Nat) (xs:List Value):Prop:=
 xs.length=n*size/\(0<n-> ∃ad,A=some ad/\ad.block<B/\ ∀j u,xs[j]? =some u->w.cell? (ad.add j)=some u)
section
variable {w w':World} {B B' size n:Nat} {A:Option Addr} {xs:List Value}
theorem A7.at_ {k:Nat} (h:A7 w B 1 A n xs) (hk:k<n): ∃ad u,A=some ad/\ad.block<B/\xs[k]? =some u/\w.cell? (ad.add k)=some u:=by
 obtain⟨ad,e,hb,hc⟩:=h.2 (by omega);have hl:k<xs.length:=by have:=h.1;omega
 exact⟨ad,xs[k],e,hb,List.getElem?_eq_getElem hl,hc k _ (List.getElem?_eq_getElem hl)⟩
theorem A7.keep (h:A7 w B size A n xs) (hk: ∀p:Addr,p.block<B->w'.cell? p=w.cell? p):A7 w' B size A n xs:=
 ⟨h.1,fun hn=>by
   obtain⟨ad,e,hb,hc⟩:=h.2 hn;exact⟨ad,e,hb,fun j u hu=>(hk _ (by rw[M7];exact hb)).trans (hc j u hu)⟩⟩
theorem A7.more (h:A7 w B size A n xs) (hB:B<=B'):A7 w B' size A n xs:=
 ⟨h.1,fun hn=>by
   obtain⟨ad,e,hb,hc⟩:=h.2 hn;exact⟨ad,e,by omega,hc⟩⟩
theorem A7.below (h:A7 w B size A n xs) (hb:Below B w w'):A7 w' B size A n xs:=h.keep fun _ hp=>hb.cell hp
theorem A7.drew (h:A7 w B size A n xs):A7 w.drew B size A n xs:=h
theorem A7.drewN (h:A7 w B size A n xs) (k:Nat):A7 (w.drewN k) B size A n xs:=h
theorem A7.alloc (h:A7 w B size A n xs) (hB:B<=w.heap.size) (o:Obj):A7 (w.alloc o) B size A n xs:=h.keep fun p hp=>World.cell?_alloc_lt w o p (by omega)
theorem A7.setCell (h:A7 w B size A n xs) {p:Addr} (hB:B<=p.block) (u:Value):A7 (w.setCell p u) B size A n xs:=
 h.keep fun q hq=>World.cell?_setCell_other w p q u (fun e=>by subst e;omega)
theorem A7.grown (h:A7 w B size A n xs) {row:Option Nat} (hg:w.grownBy w' row) (hB:B<=w.heap.size) (hr: ∀g,row=some g->B<=g):A7 w' B size A n xs:=
 h.keep fun p hp=>World.cell?_of_block (hg.block p.block (by omega) (fun e=>by have:=hr _ e.symm;omega))
theorem A7.cut (h:A7 w B size A n xs) {k cap:Nat} (hk:k<=n) (hc:n<=cap):
 A7 w B size (if cap=k then A else A.map (·.add (k*size))) (n - k) (xs.drop (k*size)):=by
 refine⟨by rw[List.length_drop,h.1,Nat.sub_mul],fun hn=> ?_⟩;obtain⟨ad,rfl,hb,hcell⟩:=h.2 (by omega);rw[if_neg (by omega)];refine⟨ad.add (k*size),rfl,by rw[M7];exact hb,fun j u hu=> ?_⟩;rw[Y6];exact hcell _ u (by rw[<-hu,List.getElem?_drop])
end
def Aj (w:World) (g:Nat) (t:TypeId) (cs:Array Value):Prop:=w.heap[g]? =some (.cells cs t (0,0))
section
variable {w w':World} {g:Nat} {t:TypeId} {cs:Array Value}
theorem Aj.lt (h:Aj w g t cs):g<w.heap.size:=by
 rcases Nat.lt_or_ge g w.heap.size with hlt|hge
 . exact hlt
 . unfold Aj at h;rw[Array.getElem?_eq_none hge]at h;cases h
theorem Aj.cell (h:Aj w g t cs) (i:Nat):w.cell? ⟨g,i,none⟩=cs[i]? :=cell_of_row w g i cs t (0,0) h
theorem Aj.frozen (h:Aj w g t cs) (i:Nat):w.frozen? ⟨g,i,none⟩=false:=by
 unfold Aj at h;simp[World.frozen?,h]
theorem Aj.new (w:World) (t:TypeId) (cs:Array Value):Aj (w.alloc (.cells cs t)) w.heap.size t cs:=heap_alloc_new w _
theorem Aj.drew (h:Aj w g t cs):Aj w.drew g t cs:=h
theorem Aj.drewN (h:Aj w g t cs) (n:Nat):Aj (w.drewN n) g t cs:=h
theorem Aj.alloc (h:Aj w g t cs) (o:Obj):Aj (w.alloc o) g t cs:=(Below.heap_alloc w o g h.lt).trans h
theorem Aj.set_ (h:Aj w g t cs) (i:Nat) (u:Value):Aj (w.setCell ⟨g,i,none⟩ u) g t (cs.setIfInBounds i u):=by
 unfold Aj at h ⊢;simp[World.setCell,Array.getElem?_modify,h]
theorem Aj.far (h:Aj w g t cs) {p:Addr} (hp:g≠p.block) (u:Value):Aj (w.setCell p u) g t cs:=(Below.heap_setCell w p u g hp).trans h
theorem Aj.below {B:Nat} (h:Aj w g t cs) (hb:Below B w w') (hg:g<B):Aj w' g t cs:=(hb.block g hg).trans h
theorem Aj.grown {row:Option Nat} (h:Aj w g t cs) (hb:w.grownBy w' row) (hg:some g≠row):Aj w' g t cs:=(hb.block g h.lt hg).trans h
end
section
variable {P:Program} (w:World)
theorem Nr (base:Nat) (t ty e:TypeId) (i:TypeInfo) (size:Nat) (ht:P.underlying t=some (.slice e)) (hi:P.info? e=some i)
 (v:Value) (n:Nat) (xs:List Value) (hown:w.ownsRow base e size v n xs) (c:Nat):(Builtin.append_ #[t,t] ty #[v,.slice none 0 c]).run P w=.ok v w:=by
 rcases hown.2 with⟨rfl,rfl⟩|⟨g,cap,cur,rfl,_,_,hnc,_⟩
 . simp[Builtin.append_,run_underlying ht,sizeOf,typeInfo,hi,Builtin.lenOf,Builtin.firstCells]
 . simp[Builtin.append_,run_underlying ht,sizeOf,typeInfo,hi,Builtin.lenOf,Builtin.firstCells,hnc,storeCells]
theorem F5 (base:Nat) (t ty e:TypeId) (i:TypeInfo) (z:Value) (size bytes:Nat) (ht:P.underlying t=some (.slice e)) (hi:P.info? e=some i) (hz:i.zero=some z)
 (hsize:i.size=size) (hby:i.bytes=bytes) (hzs:z.cells.size=size) (hsz:0<size)
 (v:Value) (n:Nat) (xs:List Value) (hown:w.ownsRow base e size v n xs)
 (B:Nat) (A:Option Addr) (m c:Nat) (news:List Value) (hr:A7 w B size A m news) (h1: ∀u ∈ news,u.oneCell'=true)
 (h63:n+m<=maxLen) (hbytes:(n+m)*bytes<=140737488355328) (hbase:base<=w.heap.size):
 ∃v' w',(Builtin.append_ #[t,t] ty #[v,.slice A m c]).run P w=.ok v' w'/\w'.ownsRow base e size v' (n+m) (xs++news)/\w.grownBy w' v.ownBlock/\
  (v'.ownBlock=v.ownBlock\/v'.ownBlock=some w.heap.size):=by
 rcases A with _|ad
 . have hm:m=0:=by
    rcases Nat.eq_zero_or_pos m with h0|h0
    . exact h0
    . obtain⟨ad,h,_⟩:=hr.2 h0
      cases h
   subst hm;have hn:news= []:=List.eq_nil_of_length_eq_zero (by simpa using hr.1);subst hn;exact⟨v,w,Nr w base t ty e i size ht hi v n xs hown c,by simpa using hown,World.grownBy.refl w _,.inl rfl⟩
 . have hcells: ∀j u,news[j]? =some u->w.cell? (ad.add j)=some u:=by
    intro j u hu;rcases Nat.eq_zero_or_pos m with h0|h0
    . subst h0;have hn:news= []:=List.eq_nil_of_length_eq_zero (by simpa using hr.1);subst hn;simp at hu
    . obtain⟨ad',h,_,hc⟩:=hr.2 h0
      injection h with h
      subst h;exact hc j u hu
   obtain⟨v',w',hrun,h2,h3,_,h5⟩:=run_append_own_at (P:=P) w base t ty e i z size bytes ht hi hz hsize hby hzs hsz v n xs hown ad m c news hr.1 hcells h1 h63 hbytes hbase;exact⟨v',w',hrun,h2,h3,h5⟩
theorem S2 {o:Oper} {a:Act} {K:Act->World->Prop} {Q:Exit->Act->World->Prop} (s x:Operand) (t:TypeId)
 (ho:o.op=.call {callee:=.builtin .append,args:= #[s,x],argTypes:= #[t,t]})
 (base:Nat) (e:TypeId) (i:TypeInfo) (z:Value) (size bytes:Nat) (ht:P.underlying t=some (.slice e)) (hi:P.info? e=some i) (hz:i.zero=some z)
 (hsize:i.size=size) (hby:i.bytes=bytes) (hzs:z.cells.size=size) (hsz:0<size)
 (v:Value) (n:Nat) (xs:List Value) (hs:a.eval s=v) (hown:w.ownsRow base e size v n xs)
 (B:Nat) (A:Option Addr) (m c:Nat) (news:List Value) (hx:a.eval x=.slice A m c) (hr:A7 w B size A m news) (h1: ∀u ∈ news,u.oneCell'=true)
 (h63:n+m<=maxLen) (hbytes:(n+m)*bytes<=140737488355328) (hbase:base<=w.heap.size)
 (h: ∀v' w',w'.ownsRow base e size v' (n+m) (xs++news)->w.grownBy w' v.ownBlock->(v'.ownBlock=v.ownBlock\/v'.ownBlock=some w.heap.size)->K (a.put o.dst v') w'):o.wp P a w K Q:=by
 obtain⟨v',w',hrun,h2,h3,h4⟩:=F5 (P:=P) w base t o.type e i z size bytes ht hi hz hsize hby hzs hsz v n xs hown B A m c news hr h1 h63 hbytes hbase;unfold Oper.wp execOp;simp only[ho,resolve,invoke,builtin,Sem.run_bind,Sem.run_pure,Result.andThen_ok,List.map_toArray,List.map_cons,List.map_nil,hs,hx,hrun];exact h v' w' h2 h3 h4
theorem Iw {ops:Array Oper} {rest:List Oper} {o:Oper} {a:Act} {Q:Exit->Act->World->Prop} (hgd:o.guard=none) (s x:Operand) (t:TypeId)
 (ho:o.op=.call {callee:=.builtin .append,args:= #[s,x],argTypes:= #[t,t]})
 (base:Nat) (e:TypeId) (i:TypeInfo) (z:Value) (size bytes:Nat) (ht:P.underlying t=some (.slice e)) (hi:P.info? e=some i) (hz:i.zero=some z)
 (hsize:i.size=size) (hby:i.bytes=bytes) (hzs:z.cells.size=size) (hsz:0<size)
 (v:Value) (n:Nat) (xs:List Value) (hs:a.eval s=v) (hown:w.ownsRow base e size v n xs)
 (B:Nat) (A:Option Addr) (m c:Nat) (news:List Value) (hx:a.eval x=.slice A m c) (hr:A7 w B size A m news) (h1: ∀u ∈ news,u.oneCell'=true)
 (h63:n+m<=maxLen) (hbytes:(n+m)*bytes<=140737488355328) (hbase:base<=w.heap.size)
 (h: ∀v' w',w'.ownsRow base e size v' (n+m) (xs++news)->w.grownBy w' v.ownBlock->(v'.ownBlock=v.ownBlock\/v'.ownBlock=some w.heap.size)->wpList P ops Q rest (a.put o.dst v') w'):wpList P ops Q (o::rest) a w:=
 wpList_plain hgd fun _ hK=>S2 w s x t ho base e i z size bytes ht hi hz hsize hby hzs hsz v n xs hs hown B A m c news hx hr h1 h63 hbytes hbase fun v' w' h2 h3 h4=>hK _ _ (h v' w' h2 h3 h4)
end
theorem Bf (g off i:Nat):(⟨g,off,none⟩:Addr).add i=⟨g,off+i,none⟩:=Go.WideShapes.add_plain g off i
theorem Ah.reads {w:World} {B s:Nat} {l:List D} {a:Option Addr} {n c:Nat} (h:Ah w B (.row s l) [.slice a n c]): ∃ns,A7 w B s a n ns/\Ag w B l ns/\ ∀u ∈ ns,u.oneCell'=true:=by
 have hn:=h.row_len;obtain⟨a',c',e,hs,ns,h1,h2⟩:=h;simp only[List.cons.injEq,Value.slice.injEq,and_true]at e;obtain⟨rfl,rfl,rfl⟩:=e;refine⟨ns,⟨by rw[h1.len.1,Fi hs],fun h0=> ?_⟩,h1,h1.len.2⟩;rcases h2 with rfl|⟨g,off,e,hg,hc⟩
 . simp at h0
 . exact⟨_,e,hg,fun j u hu=>by rw[Bf];exact hc j u hu⟩
def Dg (b:Nat) (t:TypeId) (s:Nat) (wr:World) (l:List D) (V:Value):Prop:=
 ∃ns,wr.ownsRow b t s V l.length ns/\(∀d ∈ l,d.cells=s)/\ ∀w'':World,wr.heap.size<=w''.heap.size->
  (∀p:Addr,b<=p.block->p.block<wr.heap.size->V.ownBlock≠some p.block->w''.cell? p=wr.cell? p)->Ag w'' wr.heap.size l ns
theorem Dg.nil (b:Nat) (t:TypeId) (s:Nat) (wr:World):Dg b t s wr [] (.slice none 0 0):=⟨[],World.ownsRow_nil _ _ _ _,fun d hd=>(by cases hd),fun _ _ _=>rfl⟩
theorem Dg.base {b:Nat} {t:TypeId} {s:Nat} {wr:World} {l:List D} {V:Value} (h:Dg b t s wr l V): ∀g,V.ownBlock=some g->b<=g/\g<wr.heap.size:=by
 obtain⟨ns,h1,_⟩:=h;exact h1.lt
theorem Dg.keep {b:Nat} {t:TypeId} {s:Nat} {wr w':World} {l:List D} {V:Value} (h:Dg b t s wr l V) (hs:wr.heap.size<=w'.heap.size) (hk: ∀i,b<=i->i<wr.heap.size->w'.heap[i]? =wr.heap[i]?):Dg b t s w' l V:=by
 obtain⟨ns,h1,h2,h3⟩:=h;refine⟨ns,⟨h1.1, ?_⟩,h2,fun w'' k1 k2=>Ag.more (h3 w'' (by omega) (fun p p1 p2 p3=>(k2 p p1 (by omega) p3).trans (World.cell?_of_block (hk p.block p1 p2)))) hs⟩;rcases h1.2 with⟨rfl,h0⟩|⟨g,cap,cur,rfl,hbg,hg,h5⟩
 . exact .inl ⟨rfl,h0⟩
 . exact .inr ⟨g,cap,cur,rfl,hbg,(hk g hbg (Array.getElem?_eq_some_iff.1 hg).1).trans hg,h5⟩
theorem Dg.below {b:Nat} {t:TypeId} {s:Nat} {wr w':World} {l:List D} {V:Value} (h:Dg b t s wr l V) (hb:Below wr.heap.size wr w'):Dg b t s w' l V:=h.keep hb.size fun i _ hi=>hb.block i hi
theorem Dg.step {b:Nat} {t:TypeId} {s:Nat} {wr w4 w6:World} {l:List D} {V V':Value} {d:D} {cs ns:List Value} (hbw:b<=wr.heap.size)
 (hns: ∀w'':World,wr.heap.size<=w''.heap.size->(∀p:Addr,b<=p.block->p.block<wr.heap.size->V.ownBlock≠some p.block->w''.cell? p=wr.cell? p)->Ag w'' wr.heap.size l ns)
 (hall: ∀d ∈ l,d.cells=s) (hd:d.cells=s) (hx:Br wr.heap.size w4 d cs) (hlt: ∀g,V.ownBlock=some g->g<wr.heap.size)
 (hown:w6.ownsRow b t s V' (l.length+1) (ns++cs)) (hV:V'.ownBlock=V.ownBlock\/ ∃N,V'.ownBlock=some N/\w4.heap.size<=N)
 (hs4:wr.heap.size<=w4.heap.size) (hs6:w4.heap.size<=w6.heap.size) (h4: ∀p:Addr,b<=p.block->p.block<wr.heap.size->w4.cell? p=wr.cell? p)
 (h6: ∀p:Addr,b<=p.block->p.block<w4.heap.size->V.ownBlock≠some p.block->w6.cell? p=w4.cell? p):Dg b t s w6 (l++ [d]) V':=by
 refine⟨ns++cs,by rw[List.length_append];exact hown, ?_,fun w'' hsz hag=> ?_⟩
 . intro x hx';rcases List.mem_append.1 hx' with hx'|hx'
   . exact hall x hx'
   . simp only[List.mem_cons,List.not_mem_nil,or_false]at hx';rw[hx'];exact hd
 . have hnew: ∀p:Addr,p.block<w4.heap.size->V.ownBlock≠some p.block->V'.ownBlock≠some p.block:=by
    intro p p2 p3;rcases hV with e|⟨N,e,hN⟩
    . rw[e];exact p3
    . rw[e];intro e2;have:=Option.some.inj e2;omega
   have a1:Ag w'' w6.heap.size l ns:=Ag.more (hns w'' (by omega) (fun p p1 p2 p3=>by
    rw[hag p p1 (by omega) (hnew p (by omega) p3),h6 p p1 (by omega) p3,h4 p p1 p2])) (by omega)
   have a2:Ah w'' w6.heap.size d cs:=Ah.more (hx w'' (by omega) (fun p p1 p2=>by
    have p3:V.ownBlock≠some p.block:=fun e=>by have:=hlt _ e;omega
    rw[hag p (by omega) (by omega) (hnew p p2 p3),h6 p (by omega) p2 p3])) hs6
   exact a1.snoc a2
theorem Dg.close {b:Nat} {t:TypeId} {s:Nat} {wr:World} {l:List D} {V:Value} (h:Dg b t s wr l V):
 ∃a c,V=.slice a l.length c/\l.length<=c/\Br b wr (.row s l) [.slice a l.length c]/\((l= []/\a=none/\c=0)\/ ∃g,a=some ⟨g,0,none⟩/\b<=g/\g<wr.heap.size):=by
 obtain⟨ns,h1,h2,h3⟩:=h;have h1':=h1;rcases h1.2 with⟨rfl,h0⟩|⟨g,cap,cur,rfl,hbg,hg,hnc,_⟩
 . have hl:l= []:=List.eq_nil_of_length_eq_zero h0;subst hl;exact⟨none,0,rfl,Nat.le_refl _,fun _ _ _=>⟨none,0,rfl,h2, [],rfl,.inl rfl⟩,.inl ⟨rfl,rfl,rfl⟩⟩
 . have hgl:=(Array.getElem?_eq_some_iff.1 hg).1;refine⟨_,cap,rfl,hnc,fun w'' k1 k2=>⟨_,cap,rfl,h2,ns,h3 w'' k1 (fun p p1 p2 _=>k2 p p1 p2),.inr ⟨g,0,rfl,hgl,fun j u hu=> ?_⟩⟩,.inr ⟨g,rfl,hbg,hgl⟩⟩;have h5:=h1'.cells (g:=g) rfl j u hu;rw[Bf]at h5;exact(k2 _ hbg hgl).trans h5
def Adr {α:Type} (P:Program) (gf:Nat) (lb:Array Value) (encs:α->Array Value) (xs:List α) (N:World->Prop):Prop:=
 ∀(n l:Nat) (J:List α->World->Prop) (W:World),(∀s A B,J s A->Below A.heap.size A B->J s B)->(∀s A,J s A->N A)->
  (∀pre x rest A,xs=pre++x::rest->J pre A->YieldAt Fence.wide n P l (encs x) A fun e B=>e=.returned (.bool true)/\J (pre++ [x]) B)->
  J [] W->CallsIn Fence.wide (n+1) P gf (#[.func (.yield l) #[] #[]]++lb) W fun e B=>(∃v,e=.returned v)/\J xs B
def Zl (I:World->Prop) (d:Nat) (W:World):Exit->Act->World->Prop
 | .normal,_,W'=>W'.heap[d]? =W.heap[d]? /\W'.heap[d+1]? =W.heap[d+1]? /\I W'
 |_,_,_=>False
theorem Vu {α:Type} {P:Program} {g:Operand} {ps:Array Tmp} {assign body:Code} {Q:Exit->Act->World->Prop} {a:Act} {w:World} {n:Nat}
 {gf:Nat} {lb:Array Value} (hg:a.eval g=.func (.func gf) #[] lb) (eg: ∀args w,(callFunc gf args).run P w=.ok (.enter gf args) w)
 {encs:α->Array Value} {xs:List α} {N:World->Prop} (hit:Adr P gf lb encs xs N) (hps: ∀x,(encs x).size=ps.size)
 (I:List α->World->Prop) (hIn: ∀s A B,I s A->Below A.heap.size A B->I s B)
 (hIp: ∀s A k o o',I s A->A.heap[k]? =some o->o.isCells=false->(k=w.heap.size\/k=w.heap.size+1)->I s (A.putObj k o'))
 (hIb: ∀s A,I s A->N A) (h0:I [] w) (a₁:α->Act)
 (hassign: ∀(l:Nat) (x:α) (W:World) (K:Act->World->Prop),K (a₁ x) W->
   assign.wpIn (Fence.wide.inRound l) n P (Exit.then K (fun _ _ _=>False)) {tmps:=(ps.zip (encs x)).foldl (fun t (p,v)=>t.setIfInBounds p v) a.tmps,defers:= []} W)
 (hbody: ∀(l:Nat) (pre:List α) (x:α) (rest:List α) (W:World),xs=pre++x::rest->I pre W->(∃ds,W.heap[w.heap.size]? =some (.deferred ds))->(∃r,W.heap[w.heap.size+1]? =some (.loop r))->
   body.wpIn (Fence.wide.inRound l) n P (Zl (I (pre++ [x])) w.heap.size W) (a₁ x) W)
 (hdone: ∀(W:World),I xs W->W.heap[w.heap.size]? =some (.deferred (some []))->Q .normal {a with defers:={target:=.collected w.heap.size,args:= #[]}::a.defers} W):
 (Code.rangeFunc g ps assign body).wpIn Fence.wide (n+1+1) P Q a w:=by
 refine wpIn_rangeFunc ?_;intro fn hfn;have hro:Fence.wide.round=none:=rfl;rw[hro];obtain⟨rec,hrec⟩: ∃rec:LoopState->Option Code->Loop,rec=fun st pe=>{state:=st,pending:=pe,fn,tmps:=a.tmps,params:=ps,assign,body,defers:=w.heap.size}:=⟨_,rfl⟩;obtain⟨W1,hW1⟩: ∃W1,(w.alloc (.deferred (some []))).alloc (.loop (rec .ready none))=W1:=⟨_,rfl⟩;have hL1:W1.heap[w.heap.size+1]? =some (.loop (rec .ready none)):=by
  rw[<-hW1];have:=World.alloc_heap_new (w.alloc (.deferred (some []))) (.loop (rec .ready none));rwa [World.size_alloc]at this
 have hK1:W1.heap[w.heap.size]? =some (.deferred (some [])):=by
  rw[<-hW1];exact(Below.heap_alloc _ _ _ (by simp)).trans (World.alloc_heap_new w _)
 have hI1:I [] W1:=by
  rw[<-hW1];exact hIn _ _ _ h0 (((Below.refl _ w).alloc (Nat.le_refl _) _).alloc (by simp) _)
 refine⟨w.heap.size+1, [{target:=.collected w.heap.size,args:= #[]}],W1,{target:=.fn (.func gf) lb,args:= #[.func (.yield (w.heap.size+1)) #[] #[]]},W1,gf,
  #[.func (.yield (w.heap.size+1)) #[] #[]]++lb,W1, ?_, ?_, ?_, ?_,fun h=>by simp[Fence.wide]at h, ?_⟩
 . rw[<-hW1,hrec];exact run_enterLoop_outer _ _ _ _ _
 . simp only[resolve,hg];simp[go_sem]
 . intro f' _;trivial
 . simp[invoke,go_sem,eg]
 . refine(hit n (w.heap.size+1)
    (fun pre W=>I pre W/\W.heap[w.heap.size+1]? =some (.loop (rec .ready none))/\W.heap[w.heap.size]? =some (.deferred (some [])))
    W1 (fun s A B hs hb=>⟨hIn s A B hs.1 hb,(hb.block _ (Array.getElem?_eq_some_iff.1 hs.2.1).1).trans hs.2.1,(hb.block _ (Array.getElem?_eq_some_iff.1 hs.2.2).1).trans hs.2.2⟩)
    (fun s A hs=>hIb s A hs.1) ?_ ⟨hI1,hL1,hK1⟩).mono ?_
   ·
    rintro pre x rest W hx ⟨hi,hl,hk⟩;have hlt:w.heap.size+1<W.heap.size:=(Array.getElem?_eq_some_iff.1 hl).1;have hy:=run_yield (P:=P) (args:=encs x) hl (by rw[hrec];exact hps x);rw[hrec]at hy;refine⟨fn,_,assign,body,hy,roundIn_of_wpIn trivial (hassign _ x W _ ⟨_,run_beginRound hl (by rw[hrec]), ?_⟩)⟩;have hl2:(W.putObj (w.heap.size+1) (.loop {rec .ready none with state:=.busy})).heap[w.heap.size+1]? =some (.loop {rec .ready none with state:=.busy}):=World.putObj_heap_same hlt;have hk2:(W.putObj (w.heap.size+1) (.loop {rec .ready none with state:=.busy})).heap[w.heap.size]? =some (.deferred (some [])):=(World.putObj_heap_other (by omega)).trans hk;refine wpIn_mono (hbody _ pre x rest _ hx (hIp _ _ _ _ _ hi hl rfl (.inr rfl)) ⟨_,hk2⟩ ⟨_,hl2⟩) ?_;rintro e a3 W3 hp
    cases e with
    |normal=>
     obtain⟨h1,h2,hi3⟩:=hp;have hl3:=h2.trans hl2;have hk3:=h1.trans hk2;have hr:=run_endRound (P:=P) none hl3;rw[hrec]at hr;refine⟨_,_,hr,rfl,hIp _ _ _ _ _ hi3 hl3 rfl (.inr rfl), ?_, ?_⟩
     . rw[World.putObj_heap_same (Array.getElem?_eq_some_iff.1 hl3).1,hrec];rfl
     . exact(World.putObj_heap_other (by omega)).trans hk3
    |ret=>exact hp.elim
    |exit id=>exact hp.elim
    |goto t=>exact hp.elim
    |panic ch=>exact hp.elim
    |outgrown=>exact hp.elim
   ·
    rintro e W2 ⟨⟨v,rfl⟩,hi,hl,hk⟩;exact⟨none,_,by have:=run_endLoop (P:=P) hl (by rw[hrec];simp);rw[hrec]at this;exact this,hdone _ (hIp _ _ _ _ _ hi hl rfl (.inr rfl)) ((World.putObj_heap_other (by omega)).trans hk)⟩
def Ai (S:Nat->Prop) (w:World) (d:D) (cs:List Value):Prop:=
 ∀w'':World,w.heap.size<=w''.heap.size->(∀p:Addr,S p.block->p.block<w.heap.size->w''.cell? p=w.cell? p)->Ah w'' w.heap.size d cs
def At (S:Nat->Prop) (w:World) (l:List D) (cs:List Value):Prop:=
 ∀w'':World,w.heap.size<=w''.heap.size->(∀p:Addr,S p.block->p.block<w.heap.size->w''.cell? p=w.cell? p)->Ag w'' w.heap.size l cs
theorem Ai.now {S:Nat->Prop} {w:World} {d:D} {cs:List Value} (h:Ai S w d cs):Ah w w.heap.size d cs:=h w (Nat.le_refl _) fun _ _ _=>rfl
theorem At.now {S:Nat->Prop} {w:World} {l:List D} {cs:List Value} (h:At S w l cs):Ag w w.heap.size l cs:=h w (Nat.le_refl _) fun _ _ _=>rfl
theorem Ai.mono {S T:Nat->Prop} {w:World} {d:D} {cs:List Value} (h:Ai S w d cs) (hST: ∀i,i<w.heap.size->S i->T i):Ai T w d cs:=
 fun w'' h1 h2=>h w'' h1 fun p p1 p2=>h2 p (hST _ p2 p1) p2
theorem Ai.of_old {B:Nat} {w w':World} {d:D} {cs:List Value} (h:Ah w B d cs) (hB:B<=w.heap.size) (hb:Below B w w'):Ai (fun i=>i<B) w' d cs:=fun _ _ h2=>
 (h.keep (fun p hp=>(h2 p hp (Nat.lt_of_lt_of_le hp (Nat.le_trans hB hb.size))).trans (hb.cell hp))).more (Nat.le_trans hB hb.size)
theorem Ai.later {S:Nat->Prop} {w w':World} {d:D} {cs:List Value} (h:Ai S w d cs) (hs:w.heap.size<=w'.heap.size) (hk: ∀p:Addr,S p.block->p.block<w.heap.size->w'.cell? p=w.cell? p):Ai S w' d cs:=fun w'' h1 h2=>
 (h w'' (Nat.le_trans hs h1) fun p p1 p2=>(h2 p p1 (Nat.lt_of_lt_of_le p2 hs)).trans (hk p p1 p2)).more hs
theorem Ai.below {S:Nat->Prop} {w w':World} {d:D} {cs:List Value} (h:Ai S w d cs) (hb:Below w.heap.size w w'):Ai S w' d cs:=h.later hb.size fun _ _ p2=>hb.cell p2
theorem At.one {S:Nat->Prop} {w:World} {d:D} {cs:List Value} (h:Ai S w d cs):At S w [d] cs:=fun w'' h1 h2=>Ag.one (h w'' h1 h2)
theorem At.app {S:Nat->Prop} {w:World} {l r:List D} {cs es:List Value} (h:At S w l cs) (k:At S w r es):At S w (l++r) (cs++es):=fun w'' h1 h2=>(h w'' h1 h2).app (k w'' h1 h2)
theorem Ai.blk {S:Nat->Prop} {w:World} {g:Nat} {t:TypeId} {cs:Array Value} {l:List D} {s n c:Nat} (h:Aj w g t cs) (hS:S g) (hs: ∀d ∈ l,d.cells=s) (hA:At S w l cs.toList) (hn:n=l.length):Ai S w (.row s l) [.slice (some ⟨g,0,none⟩) n c]:=by
 subst hn;intro w'' h1 h2;exact⟨_,c,rfl,hs,cs.toList,hA w'' h1 h2,.inr ⟨g,0,rfl,h.lt,fun j u hu=>by
  rw[Nat.zero_add,h2 ⟨g,j,none⟩ hS h.lt];exact(h.cell j).trans (by rw[<-Array.getElem?_toList];exact hu)⟩⟩
def A0 (S0:Nat->Prop) (b:Nat) (t:TypeId) (s:Nat) (wr:World) (l:List D) (V:Value):Prop:=
 ∃ns,wr.ownsRow b t s V l.length ns/\(∀d ∈ l,d.cells=s)/\At (fun i=>S0 i/\V.ownBlock≠some i) wr l ns
theorem A0.nil (S0:Nat->Prop) (b:Nat) (t:TypeId) (s:Nat) (wr:World):A0 S0 b t s wr [] (.slice none 0 0):=⟨[],World.ownsRow_nil _ _ _ _,fun d hd=>(by cases hd),fun _ _ _=>rfl⟩
theorem A0.base {S0:Nat->Prop} {b:Nat} {t:TypeId} {s:Nat} {wr:World} {l:List D} {V:Value} (h:A0 S0 b t s wr l V): ∀g,V.ownBlock=some g->b<=g/\g<wr.heap.size:=by
 obtain⟨ns,h1,_⟩:=h;exact h1.lt
theorem A0.keep {S0:Nat->Prop} {b:Nat} {t:TypeId} {s:Nat} {wr w':World} {l:List D} {V:Value} (h:A0 S0 b t s wr l V) (hs:wr.heap.size<=w'.heap.size) (hk: ∀i,i<wr.heap.size->w'.heap[i]? =wr.heap[i]?):A0 S0 b t s w' l V:=by
 obtain⟨ns,h1,h2,h3⟩:=h;refine⟨ns,⟨h1.1, ?_⟩,h2,fun w'' k1 k2=>Ag.more (h3 w'' (by omega) (fun p p1 p2=>(k2 p p1 (by omega)).trans (World.cell?_of_block (hk p.block p2)))) hs⟩;rcases h1.2 with⟨rfl,h0⟩|⟨g,cap,cur,rfl,hbg,hg,h5⟩
 . exact .inl ⟨rfl,h0⟩
 . exact .inr ⟨g,cap,cur,rfl,hbg,(hk g (Array.getElem?_eq_some_iff.1 hg).1).trans hg,h5⟩
theorem A0.below {S0:Nat->Prop} {b:Nat} {t:TypeId} {s:Nat} {wr w':World} {l:List D} {V:Value} (h:A0 S0 b t s wr l V) (hb:Below wr.heap.size wr w'):A0 S0 b t s w' l V:=h.keep hb.size fun i hi=>hb.block i hi
theorem A0.slice {S0:Nat->Prop} {b:Nat} {t:TypeId} {s:Nat} {wr:World} {l:List D} {V:Value} (h:A0 S0 b t s wr l V): ∃a c,V=.slice a l.length c:=by
 obtain⟨ns,h1,_⟩:=h;rcases h1.2 with⟨rfl,h0⟩|⟨g,cap,cur,rfl,_⟩
 . exact⟨_,_,by rw[h0]⟩
 . exact⟨_,_,rfl⟩
theorem A0.slice_n {S0:Nat->Prop} {b:Nat} {t:TypeId} {s n:Nat} {wr:World} {l:List D} {V:Value} (h:A0 S0 b t s wr l V) (hn:l.length=n): ∃a c,V=.slice a n c:=by
 subst hn;exact h.slice
theorem A0.close {S0:Nat->Prop} {b:Nat} {t:TypeId} {s:Nat} {wr:World} {l:List D} {a:Option Addr} {n c:Nat} (h:A0 S0 b t s wr l (.slice a n c)):Ah wr wr.heap.size (.row s l) [.slice a n c]:=by
 obtain⟨ns,h1,h2,h3⟩:=h;have h1':=h1;rcases h1.2 with⟨e,h0⟩|⟨g,cap,cur,e,hbg,hg,hnc,_⟩
 . cases e
   have hl:l= []:=List.eq_nil_of_length_eq_zero h0;subst hl;exact⟨none,0,rfl,h2, [],rfl,.inl rfl⟩
 . cases e
   have hgl:=(Array.getElem?_eq_some_iff.1 hg).1;refine⟨_,_,rfl,h2,ns,h3.now,.inr ⟨g,0,rfl,hgl,fun j u hu=> ?_⟩⟩;have h5:=h1'.cells (g:=g) rfl j u hu
   rwa [Bf]at h5
theorem A0.closeIn {S0:Nat->Prop} {b:Nat} {t:TypeId} {s:Nat} {wr:World} {l:List D} {a:Option Addr} {n c:Nat} (h:A0 S0 b t s wr l (.slice a n c)):Ai (fun i=>S0 i\/(Value.slice a n c).ownBlock=some i) wr (.row s l) [.slice a n c]:=by
 obtain⟨ns,h1,h2,h3⟩:=h;have h1':=h1;intro w'' k1 k2;have hA:=h3 w'' k1 fun p p1 p2=>k2 p (.inl p1.1) p2;rcases h1.2 with⟨e,h0⟩|⟨g,cap,cur,e,hbg,hg,hnc,_⟩
 . cases e
   have hl:l= []:=List.eq_nil_of_length_eq_zero h0;subst hl;exact⟨none,0,rfl,h2, [],rfl,.inl rfl⟩
 . cases e
   have hgl:=(Array.getElem?_eq_some_iff.1 hg).1;refine⟨_,_,rfl,h2,ns,hA,.inr ⟨g,0,rfl,hgl,fun j u hu=> ?_⟩⟩;have h5:=h1'.cells (g:=g) rfl j u hu;rw[Bf]at h5;exact(k2 ⟨g,0+j,none⟩ (.inr rfl) hgl).trans h5
section
variable {P:Program}
theorem Vf {t ty e:TypeId} {i:TypeInfo} {z:Value} {sz bytes:Nat} (ht:P.underlying t=some (.slice e)) (hi:P.info? e=some i) (hz:i.zero=some z) (hsize:i.size=sz) (hby:i.bytes=bytes) (hzs:z.cells.size=sz) (hsz:0<sz)
 {S0:Nat->Prop} {b:Nat} {w:World} {l:List D} {V:Value} (hrow:A0 S0 b e sz w l V) (hbw:b<=w.heap.size) {d:D} {cs:List Value} (hd:d.cells=sz) (hx:Ai (fun i=>S0 i/\V.ownBlock≠some i) w d cs)
 {B:Nat} {A:Option Addr} {c:Nat} (hr:A7 w B sz A 1 cs) (h63:l.length+1<=maxLen) (hbytes:(l.length+1)*bytes<=140737488355328):
 ∃V' w6,(Builtin.append_ #[t,t] ty #[V,.slice A 1 c]).run P w=.ok V' w6/\A0 S0 b e sz w6 (l++ [d]) V'/\w.grownBy w6 V.ownBlock/\(V'.ownBlock=V.ownBlock\/V'.ownBlock=some w.heap.size):=by
 obtain⟨ns,h1,h2,h3⟩:=hrow;obtain⟨V',w6,hrun,g1,g2,g3⟩:=F5 (P:=P) w b t ty e i z sz bytes ht hi hz hsize hby hzs hsz V l.length ns h1 B A 1 c cs hr hx.now.len.2 h63 hbytes hbw;refine⟨V',w6,hrun,⟨ns++cs,by rw[List.length_append];exact g1, ?_, ?_⟩,g2,g3⟩
 . intro x hx';rcases List.mem_append.1 hx' with hx'|hx'
   . exact h2 x hx'
   . simp only[List.mem_cons,List.not_mem_nil,or_false]at hx';rw[hx'];exact hd
 . have key: ∀p:Addr,V.ownBlock≠some p.block->p.block<w.heap.size->V'.ownBlock≠some p.block:=by
    intro p p1 p2;rcases g3 with e3|e3
    . rw[e3];exact p1
    . rw[e3];intro e4;have:=Option.some.inj e4;omega
   have hag: ∀w'':World,w6.heap.size<=w''.heap.size->(∀p:Addr,S0 p.block/\V'.ownBlock≠some p.block->p.block<w6.heap.size->w''.cell? p=w6.cell? p)-> ∀p:Addr,S0 p.block/\V.ownBlock≠some p.block->p.block<w.heap.size->w''.cell? p=w.cell? p:=by
    intro w'' k1 k2 p p1 p2;rw[k2 p ⟨p1.1,key p p1.2 p2⟩ (Nat.lt_of_lt_of_le p2 g2.size)];exact World.cell?_of_block (g2.block p.block p2 (fun e=>p1.2 e.symm))
   intro w'' k1 k2;have a1:=Ag.more (h3 w'' (Nat.le_trans g2.size k1) (hag w'' k1 k2)) g2.size;have a2:=Ah.more (hx w'' (Nat.le_trans g2.size k1) (hag w'' k1 k2)) g2.size;exact a1.snoc a2
theorem P1 {o:Oper} {a:Act} {w:World} {K:Act->World->Prop} {Q:Exit->Act->World->Prop} (s x:Operand) (t:TypeId) {e:TypeId}
 (ho:o.op=.call {callee:=.builtin .append,args:= #[s,x],argTypes:= #[t,t]}) {i:TypeInfo} {z:Value} {sz bytes:Nat} (ht:P.underlying t=some (.slice e)) (hi:P.info? e=some i) (hz:i.zero=some z) (hsize:i.size=sz) (hby:i.bytes=bytes) (hzs:z.cells.size=sz) (hsz:0<sz)
 {S0:Nat->Prop} {b:Nat} {l:List D} {V:Value} (hs:a.eval s=V) (hrow:A0 S0 b e sz w l V) (hbw:b<=w.heap.size) {d:D} {cs:List Value} (hd:d.cells=sz) (hf:Ai (fun i=>S0 i/\V.ownBlock≠some i) w d cs)
 {B:Nat} {A:Option Addr} {c:Nat} (hx:a.eval x=.slice A 1 c) (hr:A7 w B sz A 1 cs) (h63:l.length+1<=maxLen) (hbytes:(l.length+1)*bytes<=140737488355328)
 (h: ∀V' w6,A0 S0 b e sz w6 (l++ [d]) V'->w.grownBy w6 V.ownBlock->(V'.ownBlock=V.ownBlock\/V'.ownBlock=some w.heap.size)->K (a.put o.dst V') w6):o.wp P a w K Q:=by
 obtain⟨V',w6,hrun,g1,g2,g3⟩:=Vf (ty:=o.type) (c:=c) ht hi hz hsize hby hzs hsz hrow hbw hd hf hr h63 hbytes;unfold Oper.wp execOp;simp only[ho,resolve,invoke,builtin,Sem.run_bind,Sem.run_pure,Result.andThen_ok,List.map_toArray,List.map_cons,List.map_nil,hs,hx,hrun];exact h V' w6 g1 g2 g3
theorem Gz {ops:Array Oper} {rest:List Oper} {o:Oper} {a:Act} {w:World} {Q:Exit->Act->World->Prop} (hgd:o.guard=none) (s x:Operand) (t:TypeId) {e:TypeId}
 (ho:o.op=.call {callee:=.builtin .append,args:= #[s,x],argTypes:= #[t,t]}) {i:TypeInfo} {z:Value} {sz bytes:Nat} (ht:P.underlying t=some (.slice e)) (hi:P.info? e=some i) (hz:i.zero=some z) (hsize:i.size=sz) (hby:i.bytes=bytes) (hzs:z.cells.size=sz) (hsz:0<sz)
 {S0:Nat->Prop} {b:Nat} {l:List D} {V:Value} (hs:a.eval s=V) (hrow:A0 S0 b e sz w l V) (hbw:b<=w.heap.size) {d:D} {cs:List Value} (hd:d.cells=sz) (hf:Ai (fun i=>S0 i/\V.ownBlock≠some i) w d cs)
 {B:Nat} {A:Option Addr} {c:Nat} (hx:a.eval x=.slice A 1 c) (hr:A7 w B sz A 1 cs) (h63:l.length+1<=maxLen) (hbytes:(l.length+1)*bytes<=140737488355328)
 (h: ∀V' w6,A0 S0 b e sz w6 (l++ [d]) V'->w.grownBy w6 V.ownBlock->(V'.ownBlock=V.ownBlock\/V'.ownBlock=some w.heap.size)->wpList P ops Q rest (a.put o.dst V') w6):wpList P ops Q (o::rest) a w:=
 wpList_plain hgd fun _ hK=>P1 s x t ho ht hi hz hsize hby hzs hsz hs hrow hbw hd hf hx hr h63 hbytes fun V' w6 h2 h3 h4=>hK _ _ (h V' w6 h2 h3 h4)
theorem I6 {ops:Array Oper} {o:Oper} {a:Act} {w:World} {K:Act->World->Prop} {Q:Exit->Act->World->Prop} {E:Prop} (hgd:o.guard=none) (s x:Operand) (t:TypeId) {e:TypeId}
 (ho:o.op=.call {callee:=.builtin .append,args:= #[s,x],argTypes:= #[t,t]}) {i:TypeInfo} {z:Value} {sz bytes:Nat} (ht:P.underlying t=some (.slice e)) (hi:P.info? e=some i) (hz:i.zero=some z) (hsize:i.size=sz) (hby:i.bytes=bytes) (hzs:z.cells.size=sz) (hsz:0<sz)
 {S0:Nat->Prop} {b:Nat} {l:List D} {V:Value} (hs:a.eval s=V) (hrow:A0 S0 b e sz w l V) (hbw:b<=w.heap.size) {d:D} {cs:List Value} (hd:d.cells=sz) (hf:Ai (fun i=>S0 i/\V.ownBlock≠some i) w d cs)
 {B:Nat} {A:Option Addr} {c:Nat} (hx:a.eval x=.slice A 1 c) (hr:A7 w B sz A 1 cs) (h63:l.length+1<=maxLen) (hbytes:(l.length+1)*bytes<=140737488355328)
 (h: ∀V' w6,A0 S0 b e sz w6 (l++ [d]) V'->w.grownBy w6 V.ownBlock->(V'.ownBlock=V.ownBlock\/V'.ownBlock=some w.heap.size)->K (a.put o.dst V') w6):
 if Region.wanted o (yielded ops a.tmps)=true then Oper.wp P o a w K Q else E:=by
 have hw:Region.wanted o (yielded ops a.tmps)=true:=by simp[Region.wanted,hgd]
 rw[if_pos hw];exact P1 s x t ho ht hi hz hsize hby hzs hsz hs hrow hbw hd hf hx hr h63 hbytes h
end
end Go.Proofs.YtkmcjfkokoidcaaGreatDoor
