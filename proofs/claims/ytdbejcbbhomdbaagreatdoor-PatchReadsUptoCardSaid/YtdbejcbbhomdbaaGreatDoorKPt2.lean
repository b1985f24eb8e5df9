/- Parts: Whether a value has anything that its kind does not name: the program's function and the reference's. No condition. -/
import Derived.WalkKit
import Derived.Below
import Derived.Laws.OwnMore
import Derived.Deep.AppendLies
import Derived.Deep.Draws
import Derived.Laws.Rows
import Derived.Maps.AppendAt
import Derived.RegionTactic
import Derived.OwnWalk
import Derived.Laws.CopyRow
import Derived.Laws.AppendOwn
import Derived.Test.YtdbejcbbhomdbaaGreatDoorProg
import Derived.BigQuiet
import Derived.Deep.QuietTactic
import Derived.WalkLawsBesides
import Derived.WalkSpells
import Derived.Lib.Hide
import Derived.Lib.Strings
set_option maxHeartbeats 20000000
namespace Go.Proofs.YtdbejcbbhomdbaaGreatDoor
open Go.RowKit
inductive D where
 |leaf (v:Value)
 |agg (l:List D)
 |row (s:Nat) (l:List D)
mutual
def D.cells:D->Nat
 | .leaf _=>1
 | .agg l=>G3 l
 | .row _ _=>1
def G3:List D->Nat
 | []=>0
 |d::r=>d.cells+G3 r
end
mutual
def Ae (w:World) (B:Nat):D->List Value->Prop
 | .leaf v,cs=>cs= [v]/\v.oneCell'=true
 | .agg l,cs=>Af w B l cs
 | .row s l,cs=> ∃a c,cs= [.slice a l.length c]/\(∀d ∈ l,d.cells=s)/\ ∃ns,Af w B l ns/\(l= []\/ ∃g off,a=some ⟨g,off,none⟩/\g<B/\ ∀j u,ns[j]? =some u->w.cell? ⟨g,off+j,none⟩=some u)
def Af (w:World) (B:Nat):List D->List Value->Prop
 | [],cs=>cs= []
 |d::r,cs=> ∃c1 c2,cs=c1++c2/\Ae w B d c1/\Af w B r c2
end
theorem D.ind {p:D->Prop} (h0: ∀v,p (.leaf v)) (h1: ∀l,(∀d ∈ l,p d)->p (.agg l)) (h2: ∀s l,(∀d ∈ l,p d)->p (.row s l)): ∀d,p d:=by
 intro d;refine D.rec (motive_1:=p) (motive_2:=fun l=> ∀d ∈ l,p d) h0 h1 h2 ?_ ?_ d
 . intro d hd
   cases hd
 . intro d r hd hr x hx;rcases List.mem_cons.1 hx with rfl|hx
   . exact hd
   . exact hr x hx
theorem Af.len_of {w:World} {B:Nat}: ∀{l:List D},(∀d ∈ l,∀cs,Ae w B d cs->cs.length=d.cells/\ ∀u ∈ cs,u.oneCell'=true)-> ∀{cs},Af w B l cs->cs.length=G3 l/\ ∀u ∈ cs,u.oneCell'=true
 | [],_,cs,h=>by
   have:cs= []:=h;subst this;exact⟨rfl,fun u hu=>by cases hu⟩
 |d::r,ih,cs,h=>by
  obtain⟨c1,c2,rfl,h1,h2⟩:=h;obtain⟨a1,a2⟩:=ih d (by simp) c1 h1;obtain⟨b1,b2⟩:=Af.len_of (fun x hx=>ih x (by simp[hx])) h2;refine⟨by simp only[List.length_append,G3,a1,b1],fun u hu=> ?_⟩;rcases List.mem_append.1 hu with hu|hu
  . exact a2 u hu
  . exact b2 u hu
theorem Ae.len {w:World} {B:Nat}: ∀{d:D} {cs},Ae w B d cs->cs.length=d.cells/\ ∀u ∈ cs,u.oneCell'=true:=by
 intro d;refine D.ind (p:=fun d=> ∀{cs},Ae w B d cs->cs.length=d.cells/\ ∀u ∈ cs,u.oneCell'=true) ?_ ?_ ?_ d
 . intro v cs h;obtain⟨rfl,hv⟩:=h;exact⟨rfl,fun u hu=>by simp at hu;rw[hu];exact hv⟩
 . intro l ih cs h;exact Af.len_of (fun d hd _=>ih d hd) h
 . intro s l _ cs h;obtain⟨a,c,rfl,_⟩:=h;exact⟨rfl,fun u hu=>by simp at hu;rw[hu];rfl⟩
theorem Af.len {w:World} {B:Nat} {l:List D} {cs:List Value} (h:Af w B l cs):cs.length=G3 l/\ ∀u ∈ cs,u.oneCell'=true:=Af.len_of (fun _ _ _ hd=>hd.len) h
theorem Dy {s:Nat}: ∀{l:List D},(∀d ∈ l,d.cells=s)->G3 l=l.length*s
 | [],_=>by simp[G3]
 |d::r,h=>by
  have h1:=h d (by simp);have h2:=Dy (l:=r) (fun x hx=>h x (by simp[hx]));simp only[G3,List.length_cons,Nat.add_mul,Nat.one_mul];omega
theorem Af.imp {w w':World} {B B':Nat}: ∀{l:List D},(∀d ∈ l,∀cs,Ae w B d cs->Ae w' B' d cs)-> ∀{cs},Af w B l cs->Af w' B' l cs
 | [],_,_,h=>h
 |d::r,ih,cs,h=>by
  obtain⟨c1,c2,e,h1,h2⟩:=h;exact⟨c1,c2,e,ih d (by simp) c1 h1,Af.imp (fun x hx=>ih x (by simp[hx])) h2⟩
theorem Ae.imp {w w':World} {B B':Nat} (hB:B<=B') (hk: ∀p:Addr,p.block<B->w'.cell? p=w.cell? p): ∀{d:D} {cs},Ae w B d cs->Ae w' B' d cs:=by
 intro d;refine D.ind (p:=fun d=> ∀{cs},Ae w B d cs->Ae w' B' d cs) ?_ ?_ ?_ d
 . intro v cs h;exact h
 . intro l ih cs h;exact Af.imp (fun d hd _=>ih d hd) h
 . intro s l ih cs h;obtain⟨a,c,e,hs,ns,h1,h2⟩:=h;refine⟨a,c,e,hs,ns,Af.imp (fun d hd _=>ih d hd) h1, ?_⟩;rcases h2 with h2|⟨g,off,ea,hg,hcell⟩
   . exact .inl h2
   . exact .inr ⟨g,off,ea,by omega,fun j u hu=>(hk _ hg).trans (hcell j u hu)⟩
theorem Ae.keep {w w':World} {B:Nat} {d:D} {cs:List Value} (h:Ae w B d cs) (hk: ∀p:Addr,p.block<B->w'.cell? p=w.cell? p):Ae w' B d cs:=h.imp (Nat.le_refl _) hk
theorem Ae.below {w w':World} {B:Nat} {d:D} {cs:List Value} (h:Ae w B d cs) (hb:Below B w w'):Ae w' B d cs:=h.keep fun _ hp=>hb.cell hp
theorem Ae.more {w:World} {B B':Nat} {d:D} {cs:List Value} (h:Ae w B d cs) (hB:B<=B'):Ae w B' d cs:=h.imp hB fun _ _=>rfl
theorem Af.keep {w w':World} {B:Nat} {l:List D} {cs:List Value} (h:Af w B l cs) (hk: ∀p:Addr,p.block<B->w'.cell? p=w.cell? p):Af w' B l cs:=Af.imp (fun _ _ _ hd=>hd.keep hk) h
theorem Af.below {w w':World} {B:Nat} {l:List D} {cs:List Value} (h:Af w B l cs) (hb:Below B w w'):Af w' B l cs:=h.keep fun _ hp=>hb.cell hp
theorem Af.more {w:World} {B B':Nat} {l:List D} {cs:List Value} (h:Af w B l cs) (hB:B<=B'):Af w B' l cs:=Af.imp (fun _ _ _ hd=>hd.more hB) h
theorem Ae.later {w w':World} {d:D} {cs:List Value} (h:Ae w w.heap.size d cs) (hb:Below w.heap.size w w'):Ae w' w'.heap.size d cs:=(h.below hb).more hb.size
theorem Af.later {w w':World} {l:List D} {cs:List Value} (h:Af w w.heap.size l cs) (hb:Below w.heap.size w w'):Af w' w'.heap.size l cs:=(h.below hb).more hb.size
theorem Af.app {w:World} {B:Nat}: ∀{a b:List D} {ns ms:List Value},Af w B a ns->Af w B b ms->Af w B (a++b) (ns++ms)
 | [],b,ns,ms,h,h'=>by
   have:ns= []:=h;subst this;exact h'
 |d::r,b,ns,ms,h,h'=>by
  obtain⟨c1,c2,rfl,h1,h2⟩:=h;exact⟨c1,c2++ms,by simp,h1,Af.app h2 h'⟩
theorem Af.one {w:World} {B:Nat} {d:D} {cs:List Value} (h:Ae w B d cs):Af w B [d] cs:=⟨cs, [],by simp,h,rfl⟩
theorem Af.snoc {w:World} {B:Nat} {l:List D} {d:D} {ns cs:List Value} (h:Af w B l ns) (hd:Ae w B d cs):Af w B (l++ [d]) (ns++cs):=h.app (Af.one hd)
theorem Af.split {w:World} {B s:Nat}: ∀{l:List D} {ns:List Value} (k:Nat),(∀d ∈ l,d.cells=s)->Af w B l ns->Af w B (l.take k) (ns.take (k*s))/\Af w B (l.drop k) (ns.drop (k*s))
 | [],ns,k,_,h=>by
   have:ns= []:=h;subst this;simp[Af]
 |d::r,ns,0,_,h=>by
  simp only[List.take_zero,Nat.zero_mul,List.drop_zero];exact⟨rfl,h⟩
 |d::r,ns,k+1,hs,h=>by
  obtain⟨c1,c2,rfl,h1,h2⟩:=h;obtain⟨a,b⟩:=Af.split k (fun x hx=>hs x (by simp[hx])) h2;have hl:c1.length=s:=h1.len.1.trans (hs d (by simp));have e1:(c1++c2).take ((k+1)*s)=c1++c2.take (k*s):=by
   rw[List.take_append,List.take_of_length_le (by rw[hl,Nat.add_mul];omega),hl,Nat.add_mul,Nat.one_mul,Nat.add_sub_cancel]
  have e2:(c1++c2).drop ((k+1)*s)=c2.drop (k*s):=by
   rw[List.drop_append,List.drop_eq_nil_of_le (by rw[hl,Nat.add_mul];omega),hl,Nat.add_mul,Nat.one_mul,Nat.add_sub_cancel,List.nil_append]
  rw[e1,e2];exact⟨⟨c1,c2.take (k*s),rfl,h1,a⟩,b⟩
theorem Af.at_ {w:World} {B s:Nat} {l:List D} {ns:List Value} (hs: ∀d ∈ l,d.cells=s) (h:Af w B l ns) {i:Nat} {d:D} (hi:l[i]? =some d):
 ∃cs,Ae w B d cs/\cs.length=s/\ ∀j u,cs[j]? =some u->ns[i*s+j]? =some u:=by
 obtain⟨_,h2⟩:=Af.split i hs h;obtain⟨hlt,rfl⟩:=List.getElem?_eq_some_iff.1 hi;rw[List.drop_eq_getElem_cons hlt]at h2;obtain⟨c1,c2,e,h3,_⟩:=h2;have hl:c1.length=s:=h3.len.1.trans (hs _ (List.getElem_mem hlt));refine⟨c1,h3,hl,fun j u hu=> ?_⟩;have h5:=(List.getElem?_eq_some_iff.1 hu).1;have h4:(ns.drop (i*s))[j]? =some u:=by
  rw[e,List.getElem?_append_left h5];exact hu
 rwa [List.getElem?_drop]at h4
theorem Ae.at_ {w:World} {B s:Nat} {l:List D} {a:Option Addr} {n c:Nat} (h:Ae w B (.row s l) [.slice a n c]) {i:Nat} {d:D} (hi:l[i]? =some d):
 ∃g off,a=some ⟨g,off,none⟩/\g<B/\ ∃cs,Ae w B d cs/\cs.length=s/\ ∀j u,cs[j]? =some u->w.cell? ⟨g,off+i*s+j,none⟩=some u:=by
 obtain⟨a',c',e,hs,ns,h1,h2⟩:=h;simp only[List.cons.injEq,Value.slice.injEq,and_true]at e;obtain⟨rfl,rfl,rfl⟩:=e;rcases h2 with rfl|⟨g,off,ea,hg,hcell⟩
 . simp at hi
 . obtain⟨cs,h3,h4,h5⟩:=h1.at_ hs hi;exact⟨g,off,ea,hg,cs,h3,h4,fun j u hu=>by rw[Nat.add_assoc];exact hcell _ u (h5 j u hu)⟩
theorem Ae.row_len {w:World} {B s:Nat} {l:List D} {a:Option Addr} {n c:Nat} (h:Ae w B (.row s l) [.slice a n c]):n=l.length:=by
 obtain⟨a',c',e,_⟩:=h;simp only[List.cons.injEq,Value.slice.injEq,and_true]at e;obtain⟨rfl,rfl,rfl⟩:=e;exact rfl
def Bb (b:Nat) (w':World) (d:D) (cs:List Value):Prop:=
 ∀w'':World,w'.heap.size<=w''.heap.size->(∀p:Addr,b<=p.block->p.block<w'.heap.size->w''.cell? p=w'.cell? p)->Ae w'' w'.heap.size d cs
def F1 (b:Nat) (w':World) (l:List D) (cs:List Value):Prop:=
 ∀w'':World,w'.heap.size<=w''.heap.size->(∀p:Addr,b<=p.block->p.block<w'.heap.size->w''.cell? p=w'.cell? p)->Af w'' w'.heap.size l cs
theorem Bb.now {b:Nat} {w':World} {d:D} {cs:List Value} (h:Bb b w' d cs):Ae w' w'.heap.size d cs:=h w' (Nat.le_refl _) fun _ _ _=>rfl
theorem F1.now {b:Nat} {w':World} {l:List D} {cs:List Value} (h:F1 b w' l cs):Af w' w'.heap.size l cs:=h w' (Nat.le_refl _) fun _ _ _=>rfl
theorem F1.nil (b:Nat) (w':World):F1 b w' [] []:=fun _ _ _=>rfl
theorem F1.keep {b:Nat} {wr w':World} {l:List D} {ns:List Value} (h:F1 b wr l ns) (hs:wr.heap.size<=w'.heap.size) (hk: ∀p:Addr,b<=p.block->p.block<wr.heap.size->w'.cell? p=wr.cell? p):F1 b w' l ns:=
 fun w'' h1 h2=>Af.more (h w'' (Nat.le_trans hs h1) (fun p p1 p2=>(h2 p p1 (Nat.lt_of_lt_of_le p2 hs)).trans (hk p p1 p2))) hs
theorem Bb.keep {b b':Nat} {wr w':World} {d:D} {ns:List Value} (h:Bb b wr d ns) (hb:b'<=b) (hs:wr.heap.size<=w'.heap.size) (hk: ∀p:Addr,b<=p.block->p.block<wr.heap.size->w'.cell? p=wr.cell? p):Bb b' w' d ns:=
 fun w'' h1 h2=>Ae.more (h w'' (Nat.le_trans hs h1) (fun p p1 p2=>(h2 p (Nat.le_trans hb p1) (Nat.lt_of_lt_of_le p2 hs)).trans (hk p p1 p2))) hs
theorem Bb.later {b:Nat} {w w':World} {d:D} {ns:List Value} (h:Bb b w d ns) (hb:Below w.heap.size w w'):Bb b w' d ns:=h.keep (Nat.le_refl _) hb.size fun _ _ p2=>hb.cell p2
theorem F1.later {b:Nat} {w w':World} {l:List D} {ns:List Value} (h:F1 b w l ns) (hb:Below w.heap.size w w'):F1 b w' l ns:=h.keep hb.size fun _ _ p2=>hb.cell p2
theorem F1.row {b s:Nat} {w':World} {l:List D} {ns:List Value} {a:Option Addr} {c:Nat} (h:F1 b w' l ns) (hs: ∀d ∈ l,d.cells=s)
 (ha:l= []\/ ∃g off,a=some ⟨g,off,none⟩/\b<=g/\g<w'.heap.size/\ ∀j u,ns[j]? =some u->w'.cell? ⟨g,off+j,none⟩=some u):Bb b w' (.row s l) [.slice a l.length c]:=by
 intro w'' h1 h2;refine⟨a,c,rfl,hs,ns,h w'' h1 h2, ?_⟩;rcases ha with ha|⟨g,off,e,hbg,hg,hcell⟩
 . exact .inl ha
 . exact .inr ⟨g,off,e,hg,fun j u hu=>(h2 _ hbg hg).trans (hcell j u hu)⟩
theorem Sn (a:Addr) (n:Nat):(a.add n).block=a.block:=by unfold Addr.add;split<;>rfl
def Bo (w:World) (B size:Nat) (A:Option Addr) (n:Nat) (xs:List Value):Prop:=
 xs.length=n*size/\(0<n-> ∃ad,A=some ad/\ad.block<B/\ ∀j u,xs[j]? =some u->w.cell? (ad.add j)=some u)
section
variable {w w':World} {B B' size n:Nat} {A:Option Addr} {xs:List Value}
theorem Bo.at_ {k:Nat} (h:Bo w B 1 A n xs) (hk:k<n): ∃ad u,A=some ad/\ad.block<B/\xs[k]? =some u/\w.cell? (ad.add k)=some u:=by
 obtain⟨ad,e,hb,hc⟩:=h.2 (by omega);have hl:k<xs.length:=by have:=h.1;omega
 exact⟨ad,xs[k],e,hb,List.getElem?_eq_getElem hl,hc k _ (List.getElem?_eq_getElem hl)⟩
theorem Bo.keep (h:Bo w B size A n xs) (hk: ∀p:Addr,p.block<B->w'.cell? p=w.cell? p):Bo w' B size A n xs:=
 ⟨h.1,fun hn=>by
   obtain⟨ad,e,hb,hc⟩:=h.2 hn;exact⟨ad,e,hb,fun j u hu=>(hk _ (by rw[Sn];exact hb)).trans (hc j u hu)⟩⟩
theorem Bo.more (h:Bo w B size A n xs) (hB:B<=B'):Bo w B' size A n xs:=
 ⟨h.1,fun hn=>by
   obtain⟨ad,e,hb,hc⟩:=h.2 hn;exact⟨ad,e,by omega,hc⟩⟩
theorem Bo.below (h:Bo w B size A n xs) (hb:Below B w w'):Bo w' B size A n xs:=h.keep fun _ hp=>hb.cell hp
theorem Bo.drew (h:Bo w B size A n xs):Bo w.drew B size A n xs:=h
theorem Bo.drewN (h:Bo w B size A n xs) (k:Nat):Bo (w.drewN k) B size A n xs:=h
theorem Bo.alloc (h:Bo w B size A n xs) (hB:B<=w.heap.size) (o:Obj):Bo (w.alloc o) B size A n xs:=h.keep fun p hp=>World.cell?_alloc_lt w o p (by omega)
theorem Bo.setCell (h:Bo w B size A n xs) {p:Addr} (hB:B<=p.block) (u:Value):Bo (w.setCell p u) B size A n xs:=
 h.keep fun q hq=>World.cell?_setCell_other w p q u (fun e=>by subst e;omega)
theorem Bo.grown (h:Bo w B size A n xs) {row:Option Nat} (hg:w.grownBy w' row) (hB:B<=w.heap.size) (hr: ∀g,row=some g->B<=g):Bo w' B size A n xs:=
 h.keep fun p hp=>World.cell?_of_block (hg.block p.block (by omega) (fun e=>by have:=hr _ e.symm;omega))
end
def Aj (w:World) (g:Nat) (t:TypeId) (cs:Array Value):Prop:=w.heap[g]? =some (.cells cs t (0,0))
section
variable {w w':World} {g:Nat} {t:TypeId} {cs:Array Value}
theorem Aj.lt (h:Aj w g t cs):g<w.heap.size:=by
 rcases Nat.lt_or_ge g w.heap.size with hlt|hge
 . exact hlt
 . unfold Aj at h;rw[Array.getElem?_eq_none hge]at h;cases h
theorem Aj.cell (h:Aj w g t cs) (i:Nat):w.cell? ⟨g,i,none⟩=cs[i]? :=cell_of_row w g i cs t (0,0) h
theorem Aj.frozen (h:Aj w g t cs) (i:Nat):w.frozen? ⟨g,i,none⟩=false:=by
 unfold Aj at h;simp[World.frozen?,h]
theorem Aj.new (w:World) (t:TypeId) (cs:Array Value):Aj (w.alloc (.cells cs t)) w.heap.size t cs:=heap_alloc_new w _
theorem Aj.drew (h:Aj w g t cs):Aj w.drew g t cs:=h
theorem Aj.drewN (h:Aj w g t cs) (n:Nat):Aj (w.drewN n) g t cs:=h
theorem Aj.alloc (h:Aj w g t cs) (o:Obj):Aj (w.alloc o) g t cs:=(Below.heap_alloc w o g h.lt).trans h
theorem Aj.set_ (h:Aj w g t cs) (i:Nat) (u:Value):Aj (w.setCell ⟨g,i,none⟩ u) g t (cs.setIfInBounds i u):=by
 unfold Aj at h ⊢;simp[World.setCell,Array.getElem?_modify,h]
theorem Aj.far (h:Aj w g t cs) {p:Addr} (hp:g≠p.block) (u:Value):Aj (w.setCell p u) g t cs:=(Below.heap_setCell w p u g hp).trans h
theorem Aj.below {B:Nat} (h:Aj w g t cs) (hb:Below B w w') (hg:g<B):Aj w' g t cs:=(hb.block g hg).trans h
theorem Aj.grown {row:Option Nat} (h:Aj w g t cs) (hb:w.grownBy w' row) (hg:some g≠row):Aj w' g t cs:=(hb.block g h.lt hg).trans h
end
section
variable {P:Program} (w:World)
theorem Mf (base:Nat) (t ty e:TypeId) (i:TypeInfo) (size:Nat) (ht:P.underlying t=some (.slice e)) (hi:P.info? e=some i)
 (v:Value) (n:Nat) (xs:List Value) (hown:w.ownsRow base e size v n xs) (c:Nat):(Builtin.append_ #[t,t] ty #[v,.slice none 0 c]).run P w=.ok v w:=by
 rcases hown.2 with⟨rfl,rfl⟩|⟨g,cap,cur,rfl,_,_,hnc,_⟩
 . simp[Builtin.append_,run_underlying ht,sizeOf,typeInfo,hi,Builtin.lenOf,Builtin.firstCells]
 . simp[Builtin.append_,run_underlying ht,sizeOf,typeInfo,hi,Builtin.lenOf,Builtin.firstCells,hnc,storeCells]
theorem E5 (base:Nat) (t ty e:TypeId) (i:TypeInfo) (z:Value) (size bytes:Nat) (ht:P.underlying t=some (.slice e)) (hi:P.info? e=some i) (hz:i.zero=some z)
 (hsize:i.size=size) (hby:i.bytes=bytes) (hzs:z.cells.size=size) (hsz:0<size)
 (v:Value) (n:Nat) (xs:List Value) (hown:w.ownsRow base e size v n xs)
 (B:Nat) (A:Option Addr) (m c:Nat) (news:List Value) (hr:Bo w B size A m news) (h1: ∀u ∈ news,u.oneCell'=true)
 (h63:n+m<=maxLen) (hbytes:(n+m)*bytes<=140737488355328) (hbase:base<=w.heap.size):
 ∃v' w',(Builtin.append_ #[t,t] ty #[v,.slice A m c]).run P w=.ok v' w'/\w'.ownsRow base e size v' (n+m) (xs++news)/\w.grownBy w' v.ownBlock/\
  (v'.ownBlock=v.ownBlock\/v'.ownBlock=some w.heap.size):=by
 rcases A with _|ad
 . have hm:m=0:=by
    rcases Nat.eq_zero_or_pos m with h0|h0
    . exact h0
    . obtain⟨ad,h,_⟩:=hr.2 h0
      cases h
   subst hm;have hn:news= []:=List.eq_nil_of_length_eq_zero (by simpa using hr.1);subst hn;exact⟨v,w,Mf w base t ty e i size ht hi v n xs hown c,by simpa using hown,World.grownBy.refl w _,.inl rfl⟩
 . have hcells: ∀j u,news[j]? =some u->w.cell? (ad.add j)=some u:=by
    intro j u hu;rcases Nat.eq_zero_or_pos m with h0|h0
    . subst h0;have hn:news= []:=List.eq_nil_of_length_eq_zero (by simpa using hr.1);subst hn;simp at hu
    . obtain⟨ad',h,_,hc⟩:=hr.2 h0
      injection h with h
      subst h;exact hc j u hu
   obtain⟨v',w',hrun,h2,h3,_,h5⟩:=run_append_own_at (P:=P) w base t ty e i z size bytes ht hi hz hsize hby hzs hsz v n xs hown ad m c news hr.1 hcells h1 h63 hbytes hbase;exact⟨v',w',hrun,h2,h3,h5⟩
theorem Ra {o:Oper} {a:Act} {K:Act->World->Prop} {Q:Exit->Act->World->Prop} (s x:Operand) (t:TypeId)
 (ho:o.op=.call {callee:=.builtin .append,args:= #[s,x],argTypes:= #[t,t]})
 (base:Nat) (e:TypeId) (i:TypeInfo) (z:Value) (size bytes:Nat) (ht:P.underlying t=some (.slice e)) (hi:P.info? e=some i) (hz:i.zero=some z)
 (hsize:i.size=size) (hby:i.bytes=bytes) (hzs:z.cells.size=size) (hsz:0<size)
 (v:Value) (n:Nat) (xs:List Value) (hs:a.eval s=v) (hown:w.ownsRow base e size v n xs)
 (B:Nat) (A:Option Addr) (m c:Nat) (news:List Value) (hx:a.eval x=.slice A m c) (hr:Bo w B size A m news) (h1: ∀u ∈ news,u.oneCell'=true)
 (h63:n+m<=maxLen) (hbytes:(n+m)*bytes<=140737488355328) (hbase:base<=w.heap.size)
 (h: ∀v' w',w'.ownsRow base e size v' (n+m) (xs++news)->w.grownBy w' v.ownBlock->(v'.ownBlock=v.ownBlock\/v'.ownBlock=some w.heap.size)->K (a.put o.dst v') w'):o.wp P a w K Q:=by
 obtain⟨v',w',hrun,h2,h3,h4⟩:=E5 (P:=P) w base t o.type e i z size bytes ht hi hz hsize hby hzs hsz v n xs hown B A m c news hr h1 h63 hbytes hbase;unfold Oper.wp execOp;simp only[ho,resolve,invoke,builtin,Sem.run_bind,Sem.run_pure,Result.andThen_ok,List.map_toArray,List.map_cons,List.map_nil,hs,hx,hrun];exact h v' w' h2 h3 h4
theorem G1 {ops:Array Oper} {rest:List Oper} {o:Oper} {a:Act} {Q:Exit->Act->World->Prop} (hgd:o.guard=none) (s x:Operand) (t:TypeId)
 (ho:o.op=.call {callee:=.builtin .append,args:= #[s,x],argTypes:= #[t,t]})
 (base:Nat) (e:TypeId) (i:TypeInfo) (z:Value) (size bytes:Nat) (ht:P.underlying t=some (.slice e)) (hi:P.info? e=some i) (hz:i.zero=some z)
 (hsize:i.size=size) (hby:i.bytes=bytes) (hzs:z.cells.size=size) (hsz:0<size)
 (v:Value) (n:Nat) (xs:List Value) (hs:a.eval s=v) (hown:w.ownsRow base e size v n xs)
 (B:Nat) (A:Option Addr) (m c:Nat) (news:List Value) (hx:a.eval x=.slice A m c) (hr:Bo w B size A m news) (h1: ∀u ∈ news,u.oneCell'=true)
 (h63:n+m<=maxLen) (hbytes:(n+m)*bytes<=140737488355328) (hbase:base<=w.heap.size)
 (h: ∀v' w',w'.ownsRow base e size v' (n+m) (xs++news)->w.grownBy w' v.ownBlock->(v'.ownBlock=v.ownBlock\/v'.ownBlock=some w.heap.size)->wpList P ops Q rest (a.put o.dst v') w'):wpList P ops Q (o::rest) a w:=
 wpList_plain hgd fun _ hK=>Ra w s x t ho base e i z size bytes ht hi hz hsize hby hzs hsz v n xs hs hown B A m c news hx hr h1 h63 hbytes hbase fun v' w' h2 h3 h4=>hK _ _ (h v' w' h2 h3 h4)
end
theorem Bi (g off i:Nat):(⟨g,off,none⟩:Addr).add i=⟨g,off+i,none⟩:=Go.WideShapes.add_plain g off i
theorem Ae.reads {w:World} {B s:Nat} {l:List D} {a:Option Addr} {n c:Nat} (h:Ae w B (.row s l) [.slice a n c]): ∃ns,Bo w B s a n ns/\Af w B l ns/\ ∀u ∈ ns,u.oneCell'=true:=by
 have hn:=h.row_len;obtain⟨a',c',e,hs,ns,h1,h2⟩:=h;simp only[List.cons.injEq,Value.slice.injEq,and_true]at e;obtain⟨rfl,rfl,rfl⟩:=e;refine⟨ns,⟨by rw[h1.len.1,Dy hs],fun h0=> ?_⟩,h1,h1.len.2⟩;rcases h2 with rfl|⟨g,off,e,hg,hc⟩
 . simp at h0
 . exact⟨_,e,hg,fun j u hu=>by rw[Bi];exact hc j u hu⟩
def Cz (b:Nat) (t:TypeId) (s:Nat) (wr:World) (l:List D) (V:Value):Prop:=
 ∃ns,wr.ownsRow b t s V l.length ns/\(∀d ∈ l,d.cells=s)/\ ∀w'':World,wr.heap.size<=w''.heap.size->
  (∀p:Addr,b<=p.block->p.block<wr.heap.size->V.ownBlock≠some p.block->w''.cell? p=wr.cell? p)->Af w'' wr.heap.size l ns
theorem Cz.nil (b:Nat) (t:TypeId) (s:Nat) (wr:World):Cz b t s wr [] (.slice none 0 0):=⟨[],World.ownsRow_nil _ _ _ _,fun d hd=>(by cases hd),fun _ _ _=>rfl⟩
theorem Cz.base {b:Nat} {t:TypeId} {s:Nat} {wr:World} {l:List D} {V:Value} (h:Cz b t s wr l V): ∀g,V.ownBlock=some g->b<=g/\g<wr.heap.size:=by
 obtain⟨ns,h1,_⟩:=h;exact h1.lt
theorem Cz.keep {b:Nat} {t:TypeId} {s:Nat} {wr w':World} {l:List D} {V:Value} (h:Cz b t s wr l V) (hs:wr.heap.size<=w'.heap.size) (hk: ∀i,b<=i->i<wr.heap.size->w'.heap[i]? =wr.heap[i]?):Cz b t s w' l V:=by
 obtain⟨ns,h1,h2,h3⟩:=h;refine⟨ns,⟨h1.1, ?_⟩,h2,fun w'' k1 k2=>Af.more (h3 w'' (by omega) (fun p p1 p2 p3=>(k2 p p1 (by omega) p3).trans (World.cell?_of_block (hk p.block p1 p2)))) hs⟩;rcases h1.2 with⟨rfl,h0⟩|⟨g,cap,cur,rfl,hbg,hg,h5⟩
 . exact .inl ⟨rfl,h0⟩
 . exact .inr ⟨g,cap,cur,rfl,hbg,(hk g hbg (Array.getElem?_eq_some_iff.1 hg).1).trans hg,h5⟩
theorem Cz.below {b:Nat} {t:TypeId} {s:Nat} {wr w':World} {l:List D} {V:Value} (h:Cz b t s wr l V) (hb:Below wr.heap.size wr w'):Cz b t s w' l V:=h.keep hb.size fun i _ hi=>hb.block i hi
theorem Cz.step {b:Nat} {t:TypeId} {s:Nat} {wr w4 w6:World} {l:List D} {V V':Value} {d:D} {cs ns:List Value} (hbw:b<=wr.heap.size)
 (hns: ∀w'':World,wr.heap.size<=w''.heap.size->(∀p:Addr,b<=p.block->p.block<wr.heap.size->V.ownBlock≠some p.block->w''.cell? p=wr.cell? p)->Af w'' wr.heap.size l ns)
 (hall: ∀d ∈ l,d.cells=s) (hd:d.cells=s) (hx:Bb wr.heap.size w4 d cs) (hlt: ∀g,V.ownBlock=some g->g<wr.heap.size)
 (hown:w6.ownsRow b t s V' (l.length+1) (ns++cs)) (hV:V'.ownBlock=V.ownBlock\/ ∃N,V'.ownBlock=some N/\w4.heap.size<=N)
 (hs4:wr.heap.size<=w4.heap.size) (hs6:w4.heap.size<=w6.heap.size) (h4: ∀p:Addr,b<=p.block->p.block<wr.heap.size->w4.cell? p=wr.cell? p)
 (h6: ∀p:Addr,b<=p.block->p.block<w4.heap.size->V.ownBlock≠some p.block->w6.cell? p=w4.cell? p):Cz b t s w6 (l++ [d]) V':=by
 refine⟨ns++cs,by rw[List.length_append];exact hown, ?_,fun w'' hsz hag=> ?_⟩
 . intro x hx';rcases List.mem_append.1 hx' with hx'|hx'
   . exact hall x hx'
   . simp only[List.mem_cons,List.not_mem_nil,or_false]at hx';rw[hx'];exact hd
 . have hnew: ∀p:Addr,p.block<w4.heap.size->V.ownBlock≠some p.block->V'.ownBlock≠some p.block:=by
    intro p p2 p3;rcases hV with e|⟨N,e,hN⟩
    . rw[e];exact p3
    . rw[e];intro e2;have:=Option.some.inj e2;omega
   have a1:Af w'' w6.heap.size l ns:=Af.more (hns w'' (by omega) (fun p p1 p2 p3=>by
    rw[hag p p1 (by omega) (hnew p (by omega) p3),h6 p p1 (by omega) p3,h4 p p1 p2])) (by omega)
   have a2:Ae w'' w6.heap.size d cs:=Ae.more (hx w'' (by omega) (fun p p1 p2=>by
    have p3:V.ownBlock≠some p.block:=fun e=>by have:=hlt _ e;omega
    rw[hag p (by omega) (by omega) (hnew p p2 p3),h6 p (by omega) p2 p3])) hs6
   exact a1.snoc a2
theorem Cz.close {b:Nat} {t:TypeId} {s:Nat} {wr:World} {l:List D} {V:Value} (h:Cz b t s wr l V):
 ∃a c,V=.slice a l.length c/\l.length<=c/\Bb b wr (.row s l) [.slice a l.length c]/\((l= []/\a=none/\c=0)\/ ∃g,a=some ⟨g,0,none⟩/\b<=g/\g<wr.heap.size):=by
 obtain⟨ns,h1,h2,h3⟩:=h;have h1':=h1;rcases h1.2 with⟨rfl,h0⟩|⟨g,cap,cur,rfl,hbg,hg,hnc,_⟩
 . have hl:l= []:=List.eq_nil_of_length_eq_zero h0;subst hl;exact⟨none,0,rfl,Nat.le_refl _,fun _ _ _=>⟨none,0,rfl,h2, [],rfl,.inl rfl⟩,.inl ⟨rfl,rfl,rfl⟩⟩
 . have hgl:=(Array.getElem?_eq_some_iff.1 hg).1;refine⟨_,cap,rfl,hnc,fun w'' k1 k2=>⟨_,cap,rfl,h2,ns,h3 w'' k1 (fun p p1 p2 _=>k2 p p1 p2),.inr ⟨g,0,rfl,hgl,fun j u hu=> ?_⟩⟩,.inr ⟨g,rfl,hbg,hgl⟩⟩;have h5:=h1'.cells (g:=g) rfl j u hu;rw[Bi]at h5;exact(k2 _ hbg hgl).trans h5
def Bd (w:World) (g o:Nat):List Value->World
 | []=>w
 |v::r=>Bd (w.setCell ⟨g,o,none⟩ v) g (o+1) r
def Oe (cs:Array Value) (o:Nat):List Value->Array Value
 | []=>cs
 |v::r=>Oe (cs.setIfInBounds o v) (o+1) r
theorem B4: ∀(vs:List Value) (w:World) (g o:Nat),(Bd w g o vs).heap.size=w.heap.size
 | [],_,_,_=>rfl
 |v::r,w,g,o=>by simp only[Bd];rw[B4 r];simp[World.setCell]
theorem Bw: ∀(vs:List Value) (w:World) (g o c:Nat),c≠g->(Bd w g o vs).heap[c]? =w.heap[c]?
 | [],_,_,_,_,_=>rfl
 |v::r,w,g,o,c,h=>by
  simp only[Bd];rw[Bw r _ _ _ _ h];simp only[World.setCell,Array.getElem?_modify];rw[if_neg (fun e=>h e.symm)]
theorem I8: ∀(vs:List Value) {w:World} {g o:Nat} {cs:Array Value} {t:TypeId},w.heap[g]? =some (.cells cs t (0,0))->(Bd w g o vs).heap[g]? =some (.cells (Oe cs o vs) t (0,0))
 | [],_,_,_,_,_,h=>h
 |v::r,w,g,o,cs,t,h=>by
  simp only[Bd,Oe];exact I8 r (by simp[World.setCell,Array.getElem?_modify,h])
theorem Am {B:Nat} {a:World}: ∀(vs:List Value) {w:World} {g o:Nat},Below B a w->B<=g->Below B a (Bd w g o vs)
 | [],_,_,_,h,_=>h
 |v::r,w,g,o,h,hg=>by
  simp only[Bd];exact Am r (h.setCell hg _) hg
theorem M4: ∀(vs:List Value) (cs:Array Value) (o:Nat),(Oe cs o vs).size=cs.size
 | [],_,_=>rfl
 |v::r,cs,o=>by simp only[Oe];rw[M4 r];simp
theorem Mb: ∀(vs:List Value) (cs:Array Value) (o i:Nat),o+vs.length<=cs.size->(Oe cs o vs)[i]? =if o<=i/\i<o+vs.length then vs[i - o]? else cs[i]?
 | [],cs,o,i,_=>by
   simp only[Oe,List.length_nil];rw[if_neg (by omega)]
 |v::r,cs,o,i,h=>by
  simp only[List.length_cons]at h;simp only[Oe];rw[Mb r _ _ _ (by simp;omega)];by_cases h1:o+1<=i/\i<o+1+r.length
  . rw[if_pos h1,if_pos ⟨by omega,by simp only[List.length_cons];omega⟩,show i - o=(i - (o+1))+1 from by omega,List.getElem?_cons_succ]
  . rw[if_neg h1];by_cases h2:i=o
    . subst h2;rw[if_pos ⟨Nat.le_refl _,by simp⟩];simp only[Nat.sub_self,List.getElem?_cons_zero];rw[Array.getElem?_setIfInBounds_self_of_lt (by omega)]
    . rw[if_neg (by simp only[List.length_cons];omega),Array.getElem?_setIfInBounds_ne (by omega)]
def Dg (b g:Nat) (t:TypeId) (s N:Nat) (wr:World) (l:List D):Prop:=
 b<=g/\l.length<=N/\(∀d ∈ l,d.cells=s)/\ ∃(cs:Array Value) (ns:List Value),wr.heap[g]? =some (.cells cs t (0,0))/\cs.size=N*s/\(∀(j:Nat) (u:Value),ns[j]? =some u->cs[j]? =some u)/\
  ∀w'':World,wr.heap.size<=w''.heap.size->(∀p:Addr,b<=p.block->p.block<wr.heap.size->p.block≠g->w''.cell? p=wr.cell? p)->Af w'' wr.heap.size l ns
theorem Dg.start {b g:Nat} {t:TypeId} {s N:Nat} {wr:World} {cs:Array Value} (hb:b<=g) (hg:wr.heap[g]? =some (.cells cs t (0,0))) (hs:cs.size=N*s):Dg b g t s N wr []:=
 ⟨hb,Nat.zero_le _,fun d hd=>(by cases hd),cs, [],hg,hs,fun j u h=>(by simp at h),fun _ _ _=>rfl⟩
theorem Dg.lt {b g:Nat} {t:TypeId} {s N:Nat} {wr:World} {l:List D} (h:Dg b g t s N wr l):g<wr.heap.size:=by
 obtain⟨_,_,_,cs,ns,h4,_⟩:=h;exact(Array.getElem?_eq_some_iff.1 h4).1
theorem Dg.cell {b g:Nat} {t:TypeId} {s N:Nat} {wr:World} {l:List D} (h:Dg b g t s N wr l):(∀j,j<N*s-> ∃u,wr.cell? ⟨g,j,none⟩=some u)/\ ∀j,wr.frozen? ⟨g,j,none⟩=false:=by
 obtain⟨_,_,_,cs,ns,h4,h5,_⟩:=h;refine⟨fun j hj=> ?_,fun j=> ?_⟩
 . exact⟨cs[j],by rw[cell_of_row wr g j cs t (0,0) h4];exact Array.getElem?_eq_getElem (by omega)⟩
 . simp[World.frozen?,h4]
theorem Dg.keep {b g:Nat} {t:TypeId} {s N:Nat} {wr w':World} {l:List D} (h:Dg b g t s N wr l) (hs:wr.heap.size<=w'.heap.size) (hk: ∀i,b<=i->i<wr.heap.size->w'.heap[i]? =wr.heap[i]?):Dg b g t s N w' l:=by
 have hlt:=h.lt;obtain⟨h1,h2,h3,cs,ns,h4,h5,h6,h7⟩:=h;exact⟨h1,h2,h3,cs,ns,(hk g h1 hlt).trans h4,h5,h6,fun w'' k1 k2=>Af.more (h7 w'' (by omega) (fun p p1 p2 p3=>(k2 p p1 (by omega) p3).trans (World.cell?_of_block (hk p.block p1 p2)))) hs⟩
theorem Dg.below {b g:Nat} {t:TypeId} {s N:Nat} {wr w':World} {l:List D} (h:Dg b g t s N wr l) (hb:Below wr.heap.size wr w'):Dg b g t s N w' l:=h.keep hb.size fun i _ hi=>hb.block i hi
theorem Dg.step {b g:Nat} {t:TypeId} {s N:Nat} {wr w4:World} {l:List D} {d:D} {cs':List Value} (h:Dg b g t s N wr l) (hl:l.length<N) (hd:d.cells=s) (hx:Bb wr.heap.size w4 d cs') (h4:Below wr.heap.size wr w4):
 Dg b g t s N (Bd w4 g (l.length*s) cs') (l++ [d]):=by
 have hlt:=h.lt;have h':=h.below h4;obtain⟨h1,h2,h3,cs,ns,k4,h5,h6,h7⟩:=h';have hcl:cs'.length=s:=hx.now.len.1.trans hd;have hnl:ns.length=l.length*s:=by
  have hA:=h7 w4 (Nat.le_refl _) (fun _ _ _ _=>rfl);rw[hA.len.1,Dy h3]
 have hN:l.length*s+s<=N*s:=by
  have:=Nat.mul_le_mul_right s (show l.length+1<=N by omega);rw[Nat.add_mul,Nat.one_mul]at this;exact this
 have hsz:=h4.size;refine⟨h1,by rw[List.length_append,List.length_cons,List.length_nil];omega, ?_,Oe cs (l.length*s) cs',ns++cs',I8 cs' k4,by rw[M4];exact h5, ?_, ?_⟩
 . intro x hx';rcases List.mem_append.1 hx' with hx'|hx'
   . exact h3 x hx'
   . simp only[List.mem_cons,List.not_mem_nil,or_false]at hx';rw[hx'];exact hd
 . intro j u hj;rw[Mb cs' cs (l.length*s) j (by omega)];by_cases hjn:j<ns.length
   . rw[List.getElem?_append_left hjn]at hj;rw[if_neg (by omega)];exact h6 j u hj
   . rw[List.getElem?_append_right (by omega)]at hj;have:=(List.getElem?_eq_some_iff.1 hj).1;rw[if_pos ⟨by omega,by omega⟩,<-hnl];exact hj
 . intro w'' k1 k2;rw[B4]at k1 k2 ⊢;have hfar: ∀p:Addr,b<=p.block->p.block<w4.heap.size->p.block≠g->w''.cell? p=w4.cell? p:=fun p p1 p2 p3=>(k2 p p1 p2 p3).trans (World.cell?_of_block (Bw cs' w4 g _ _ p3));exact(h7 w'' k1 hfar).snoc (hx w'' k1 (fun p p1 p2=>hfar p (by omega) p2 (by omega)))
theorem Dg.close {b g:Nat} {t:TypeId} {s:Nat} {wr:World} {l:List D} (h:Dg b g t s l.length wr l) (c:Nat):Bb b wr (.row s l) [.slice (some ⟨g,0,none⟩) l.length c]:=by
 have hlt:=h.lt;obtain⟨h1,h2,h3,cs,ns,h4,h5,h6,h7⟩:=h;intro w'' k1 k2;refine⟨_,c,rfl,h3,ns,h7 w'' k1 (fun p p1 p2 _=>k2 p p1 p2),.inr ⟨g,0,rfl,hlt,fun j u hu=> ?_⟩⟩;rw[k2 _ h1 hlt,Nat.zero_add,cell_of_row wr g j cs t (0,0) h4];exact h6 j u hu
section
variable {P:Program}
theorem Dq (w:World) (dT sT ty elem:TypeId) (s g o dLen dCap:Nat) (a:Addr) (sLen sCap:Nat) (cur:Array Value) (t:TypeId) (cs:List Value)
 (hu:P.underlying dT=some (.slice elem)) (hs:(P.info? elem).map (·.size)=some s)
 (hg:w.heap[g]? =some (.cells cur t (0,0))) (hn:cs.length=Nat.min sLen dLen*s)
 (hsrc: ∀j v,cs[j]? =some v->w.cell? (a.add j)=some v) (hfit:o+cs.length<=cur.size) (h1: ∀v ∈ cs,v.oneCell'=true):
 (Builtin.copy_ #[dT,sT] ty #[.slice (some ⟨g,o,none⟩) dLen dCap,.slice (some a) sLen sCap]).run P w=
   .ok (goInt (Nat.min sLen dLen)) (w.setRow g (cur.toList.take o++cs++cur.toList.drop (o+cs.length)).toArray):=by
 have hl:=run_loadCells_list (P:=P) w a cs hsrc;have hst:=run_storeCells_at P g o t cs 0 cur w hg (by simpa using hfit) h1
 cases hq:P.info? elem with
 |none=>simp[hq]at hs
 |some i=>
  have hi:i.size=s:=by simpa[hq]using hs
  subst hi;simp only[Nat.add_zero]at hst;simp[Builtin.copy_,run_underlying hu,Builtin.lenOf,Builtin.firstCells,sizeOf,typeInfo,hq,<-hn,hl,hst]
end
theorem Lh {w:World} {b g n cap s:Nat} {e:TypeId} {cur:Array Value} {xs:List Value} (hb:b<=g) (hg:w.heap[g]? =some (.cells cur e (0,0))) (hnc:n<=cap) (hm:cap<=maxLen) (hs:cur.size=cap*s) (hx:cur.toList.take (n*s)=xs):w.ownsRow b e s (.slice (some ⟨g,0,none⟩) n cap) n xs:=by
 refine⟨?_,.inr ⟨g,cap,cur,rfl,hb,hg,hnc,hm,hs,hx⟩⟩;have:n*s<=cap*s:=Nat.mul_le_mul_right _ hnc;rw[<-hx,List.length_take,Array.length_toList,hs];omega
theorem J6 {B g:Nat} {w0 w:World} (h:Below B w0 w) (hg:B<=g) (cs:Array Value):Below B w0 (w.setRow g cs):=⟨h.os,h.tape,h.output,by rw[size_setRow];exact h.size,fun k hk=>(setRow_other _ _ _ _ (by omega)).trans (h.block k hk)⟩
theorem Rp {w:World} {g:Nat} (cur:Array Value):w.grownBy (w.setRow g cur) (some g):=⟨rfl,rfl,rfl,by simp,fun k _ h=>setRow_other _ _ _ _ fun e=>h (by rw[e])⟩
theorem Ni {w w1 w2:World} {r:Option Nat} (h:w.grownBy w1 r) (k:w1.grownBy w2 r):w.grownBy w2 r:=
 ⟨k.os.trans h.os,k.tape.trans h.tape,k.output.trans h.output,Nat.le_trans h.size k.size,fun i hi hr=>(k.block i (Nat.lt_of_lt_of_le hi h.size) hr).trans (h.block i hi hr)⟩
theorem Fu {w w1:World} {r:Option Nat} (h:Below w.heap.size w w1):w.grownBy w1 r:=⟨h.os,h.tape,h.output,h.size,fun i hi _=>h.block i hi⟩
theorem Qb {α:Type} (A M Z:List α) (y z:List α) (p q:Nat) (hA:A.length=p) (hM:M.length=y.length+z.length) (hq:q=p+y.length):
 (((A++M++Z).take p++y++(A++M++Z).drop (p+y.length)).take q++z++((A++M++Z).take p++y++(A++M++Z).drop (p+y.length)).drop (q+z.length))=A++y++z++Z:=by
 subst hA hq;have e1:(A++M++Z).take A.length=A:=by rw[List.append_assoc,List.take_left'];rfl
 have e2:(A++M++Z).drop (A.length+y.length)=M.drop y.length++Z:=by
  rw[List.append_assoc,List.drop_append,List.drop_eq_nil_of_le (by omega),List.nil_append,show A.length+y.length - A.length=y.length by omega,List.drop_append_of_le_length (by omega)]
 rw[e1,e2];have e3:(A++y++(M.drop y.length++Z)).take (A.length+y.length)=A++y:=by rw[List.take_left'];simp
 have e4:(A++y++(M.drop y.length++Z)).drop (A.length+y.length+z.length)=Z:=by
  rw[<-List.append_assoc,List.drop_left'];simp;omega
 rw[e3,e4]
def E2 (k:Int) (b:Bool) (n:Int) (t:ByteArray) (ln on:Nat):Bool:=
 if k==1 then b||n != 0|| !t.toList.isEmpty||ln != 0||on != 0
 else if k==2 then n != 0|| !t.toList.isEmpty||ln != 0||on != 0
 else if k==3 then b|| !t.toList.isEmpty||ln != 0||on != 0
 else if k==4 then b||n != 0||ln != 0||on != 0
 else if k==5 then b||n != 0|| !t.toList.isEmpty||on != 0
 else if k==6 then b||n != 0|| !t.toList.isEmpty||ln != 0
 else true
theorem Z7 (k:Int) (b:Bool) (n:Int) (t:ByteArray) (la oa:Option Addr) (ln lc on oc:Nat) (w:World):
 Calls Tryz.prog 143 #[.agg #[.int .i64 k,.bool b,.int .i64 n,.string t,.slice la ln lc,.slice oa on oc]] w fun e w'=>e=.returned (.bool (E2 k b n t ln on))/\Below w.heap.size w w':=by
 go_enter Tryz.func143,Tryz.ntmps143;go_wp2
 all_goals go_ret
 all_goals simp only[E2, *]
 all_goals refine⟨by first|(simp_all;done)|(simp_all;omega)|(simp_all;rw[Bool.eq_iff_iff];simp[Nat.pos_iff_ne_zero]), ?_⟩
 all_goals exact Below.alloc (Below.refl _ _) (Nat.le_refl _) _
theorem Aav {t:ByteArray} (h: ¬t=ByteArray.empty):t.toList≠ []:=by
 intro e;rw[Lib.toList_data]at e;apply h;have:t.data= #[]:=by simpa using e
 exact ByteArray.ext this
theorem Vs {a b:Bool} (h:a=b):Ending.returned (.bool a)=.returned (.bool b):=by rw[h]
theorem Abg (n:Nat):((n:Int)==0)=(n==0):=by rw[Bool.eq_iff_iff];simp
theorem Wx (k:Int) (b:Bool) (n:Int) (t:ByteArray) (la oa:Option Addr) (ln lc on oc:Nat) (w:World):
 Calls Tryz.prog 144 #[.agg #[.int .i64 k,.bool b,.int .i64 n,.string t,.slice la ln lc,.slice oa on oc]] w fun e w'=>e=.returned (.bool (!E2 k b n t ln on))/\Below w.heap.size w w':=by
 rcases(by omega:k=1\/k=2\/k=3\/k=4\/k=5\/k=6\/k<1\/6<k)with rfl|rfl|rfl|rfl|rfl|rfl|h|h
 all_goals
  go_enter Tryz.func144,Tryz.ntmps144;go_wp2
  all_goals go_ret
  all_goals refine⟨Vs ?_,Below.alloc (Below.refl _ _) (Nat.le_refl _) _⟩
  all_goals simp only[E2,Abg]
 all_goals first|(simp_all[Aav];done)|(subst_vars;simp_all[bne];done)|(rw[if_neg (by simp;omega),if_neg (by simp;omega),if_neg (by simp;omega),if_neg (by simp;omega),if_neg (by simp;omega),if_neg (by simp;omega)];rfl)|skip
end Go.Proofs.YtdbejcbbhomdbaaGreatDoor
