/- Parts: Nodes that hang on certain blocks alone. Plain. No condition. -/
import Derived.Test.YtkmcjfkokoidcaaGreatDoorKFa8
import Derived.Test.YtkmcjfkokoidcaaGreatDoorKFa9
namespace Go.Proofs.YtkmcjfkokoidcaaGreatDoor
open Go Go.RowKit
abbrev Vg:TypeId:=176
def dPt (b:Nat):D:=.leaf (.pointer (some ⟨b,0,none⟩))
def Bb (l:List Nat):List D:=l.map dPt
theorem O3 (l:List Nat): ∀d ∈ Bb l,d.cells=1:=by
 intro d hd;obtain⟨b,_,rfl⟩:=List.mem_map.1 hd;rfl
theorem A8 (l:List Nat):(Bb l).length=l.length:=List.length_map ..
def Ex (n:Nd):ByteArray:=((Bi n).getLast?.map (·.1)).getD ByteArray.empty
mutual
def Cd (w:World) (B:Nat):Nd->Nat->Prop
 | .leaf es,b=>b<B/\ ∃a c,Ag w B (.row 7 (dO es)) [.slice a es.length c]/\
    Aj w b Vg #[.slice a es.length c,.slice none 0 0,.int .i64 0,.int .i64 es.length,.string (A7 (.leaf es)),.string (Ex (.leaf es)),.bool false]
 | .inner ks,b=>b<B/\ ∃bs a c,Ag w B (.row 1 (Bb bs)) [.slice a ks.length c]/\
    Aj w b Vg #[.slice none 0 0,.slice a ks.length c,.int .i64 (Ms (.inner ks)),.int .i64 (Bg ks).length,.string (A7 (.inner ks)),.string (Ex (.inner ks)),.bool false]/\A6 w B ks bs
def A6 (w:World) (B:Nat):List Nd->List Nat->Prop
 | [],bs=>bs= []
 |k::r,bs=> ∃b t,bs=b::t/\Cd w B k b/\A6 w B r t
end
theorem A6.imp {w w':World} {B B':Nat}: ∀{ks:List Nd},(∀k ∈ ks,∀b,Cd w B k b->Cd w' B' k b)-> ∀{bs},A6 w B ks bs->A6 w' B' ks bs
 | [],_,_,h=>h
 |k::r,ih,bs,h=>by
  simp only[A6]at h ⊢;obtain⟨b,t,e,h1,h2⟩:=h;exact⟨b,t,e,ih k (by simp) b h1,A6.imp (fun x hx=>ih x (by simp[hx])) h2⟩
theorem Cd.imp {w w':World} {B B':Nat} (hB:B<=B') (hk: ∀i,i<B->w'.heap[i]? =w.heap[i]?): ∀{n:Nd} {b:Nat},Cd w B n b->Cd w' B' n b:=by
 intro n;refine Nd.ind (p:=fun n=> ∀{b:Nat},Cd w B n b->Cd w' B' n b) ?_ ?_ n
 . intro es b h;simp only[Cd]at h ⊢;obtain⟨h0,a,c,h1,h2⟩:=h;exact⟨by omega,a,c,h1.imp hB fun p hp=>World.cell?_of_block (hk p.block hp),(hk b h0).trans h2⟩
 . intro ks ih b h;simp only[Cd]at h ⊢;obtain⟨h0,bs,a,c,h1,h2,h3⟩:=h;exact⟨by omega,bs,a,c,h1.imp hB fun p hp=>World.cell?_of_block (hk p.block hp),(hk b h0).trans h2,A6.imp (fun k hk' _ hb=>ih k hk' hb) h3⟩
theorem Cd.below {w w':World} {B:Nat} {n:Nd} {b:Nat} (h:Cd w B n b) (hb:Below B w w'):Cd w' B n b:=h.imp (Nat.le_refl _) fun i hi=>hb.block i hi
theorem Cd.more {w:World} {B B':Nat} {n:Nd} {b:Nat} (h:Cd w B n b) (hB:B<=B'):Cd w B' n b:=h.imp hB fun _ _=>rfl
theorem Cd.later {w w':World} {n:Nd} {b:Nat} (h:Cd w w.heap.size n b) (hb:Below w.heap.size w w'):Cd w' w'.heap.size n b:=(h.below hb).more hb.size
theorem A6.below {w w':World} {B:Nat} {ks:List Nd} {bs:List Nat} (h:A6 w B ks bs) (hb:Below B w w'):A6 w' B ks bs:=A6.imp (fun _ _ _ h=>h.below hb) h
theorem A6.more {w:World} {B B':Nat} {ks:List Nd} {bs:List Nat} (h:A6 w B ks bs) (hB:B<=B'):A6 w B' ks bs:=A6.imp (fun _ _ _ h=>h.more hB) h
theorem A6.later {w w':World} {ks:List Nd} {bs:List Nat} (h:A6 w w.heap.size ks bs) (hb:Below w.heap.size w w'):A6 w' w'.heap.size ks bs:=(h.below hb).more hb.size
theorem Cd.lt {w:World} {B:Nat} {n:Nd} {b:Nat} (h:Cd w B n b):b<B:=by
 cases n<;>(simp only[Cd]at h;exact h.1)
theorem A6.len {w:World} {B:Nat}: ∀{ks:List Nd} {bs:List Nat},A6 w B ks bs->bs.length=ks.length
 | [],bs,h=>by
   simp only[A6]at h;rw[h];rfl
 |k::r,bs,h=>by
  simp only[A6]at h;obtain⟨b,t,rfl,_,h2⟩:=h;simp[A6.len h2]
theorem A6.at_ {w:World} {B:Nat}: ∀{ks:List Nd} {bs:List Nat},A6 w B ks bs-> ∀{i:Nat} {k:Nd},ks[i]? =some k-> ∃b,bs[i]? =some b/\Cd w B k b
 | [],bs,h,i,k,hi=>by simp at hi
 |x::r,bs,h,i,k,hi=>by
  simp only[A6]at h;obtain⟨b,t,rfl,h1,h2⟩:=h
  cases i with
  |zero=>
   simp only[List.getElem?_cons_zero,Option.some.injEq]at hi;subst hi;exact⟨b,rfl,h1⟩
  |succ i=>
   simp only[List.getElem?_cons_succ]at hi ⊢;exact A6.at_ h2 hi
theorem A6.app {w:World} {B:Nat}: ∀{ks ks':List Nd} {bs bs':List Nat},A6 w B ks bs->A6 w B ks' bs'->A6 w B (ks++ks') (bs++bs')
 | [],ks',bs,bs',h,h'=>by
   simp only[A6]at h;subst h;exact h'
 |k::r,ks',bs,bs',h,h'=>by
  simp only[A6]at h;obtain⟨b,t,rfl,h1,h2⟩:=h;simp only[List.cons_append,A6];exact⟨b,t++bs',rfl,h1,A6.app h2 h'⟩
theorem A6.one {w:World} {B:Nat} {k:Nd} {b:Nat} (h:Cd w B k b):A6 w B [k] [b]:=by
 simp only[A6];exact⟨b, [],rfl,h,rfl⟩
theorem A6.split {w:World} {B:Nat}: ∀{ks:List Nd} {bs:List Nat} (i:Nat),A6 w B ks bs->A6 w B (ks.take i) (bs.take i)/\A6 w B (ks.drop i) (bs.drop i)
 | [],bs,i,h=>by
   simp only[A6]at h;subst h;simp[A6]
 |k::r,bs,0,h=>by
  simp only[List.take_zero,List.drop_zero];exact⟨by simp only[A6],h⟩
 |k::r,bs,i+1,h=>by
  simp only[A6]at h;obtain⟨b,t,rfl,h1,h2⟩:=h;obtain⟨a1,a2⟩:=A6.split i h2;simp only[List.take_succ_cons,List.drop_succ_cons,A6];exact⟨⟨b,t.take i,rfl,h1,a1⟩,a2⟩
theorem A6.set {w:World} {B:Nat}: ∀{ks:List Nd} {bs:List Nat} (i:Nat) {k:Nd} {b:Nat},A6 w B ks bs->Cd w B k b->A6 w B (ks.set i k) (bs.set i b)
 | [],bs,i,k,b,h,_=>by
   simp only[A6]at h;subst h;simp[A6]
 |x::r,bs,0,k,b,h,hk=>by
  simp only[A6]at h;obtain⟨b',t,rfl,h1,h2⟩:=h;simp only[tk5,A6];exact⟨b,t,rfl,hk,h2⟩
 |x::r,bs,i+1,k,b,h,hk=>by
  simp only[A6]at h;obtain⟨b',t,rfl,h1,h2⟩:=h;simp only[tk6,A6];exact⟨b',t.set i b,rfl,h1,A6.set i h2 hk⟩
def Yn (w:World) (B:Nat):Option (Nat×Nd)->Option Addr->Prop
 |none,p=>p=none
 |some (_,n),p=> ∃b,p=some ⟨b,0,none⟩/\Cd w B n b
theorem Yn.below {w w':World} {B:Nat} {t:Option (Nat×Nd)} {p:Option Addr} (h:Yn w B t p) (hb:Below B w w'):Yn w' B t p:=by
 cases t with
 |none=>exact h
 |some t=>
  obtain⟨b,e,h1⟩:=h;exact⟨b,e,h1.below hb⟩
theorem Yn.more {w:World} {B B':Nat} {t:Option (Nat×Nd)} {p:Option Addr} (h:Yn w B t p) (hB:B<=B'):Yn w B' t p:=by
 cases t with
 |none=>exact h
 |some t=>
  obtain⟨b,e,h1⟩:=h;exact⟨b,e,h1.more hB⟩
theorem Yn.later {w w':World} {t:Option (Nat×Nd)} {p:Option Addr} (h:Yn w w.heap.size t p) (hb:Below w.heap.size w w'):Yn w' w'.heap.size t p:=(h.below hb).more hb.size
mutual
def Bm (S:Nat->Prop) (w:World):Nd->Nat->Prop
 | .leaf es,b=>S b/\b<w.heap.size/\ ∃a c,Ah S w (.row 7 (dO es)) [.slice a es.length c]/\
    Aj w b Vg #[.slice a es.length c,.slice none 0 0,.int .i64 0,.int .i64 es.length,.string (A7 (.leaf es)),.string (Ex (.leaf es)),.bool false]
 | .inner ks,b=>S b/\b<w.heap.size/\ ∃bs a c,Ah S w (.row 1 (Bb bs)) [.slice a ks.length c]/\
    Aj w b Vg #[.slice none 0 0,.slice a ks.length c,.int .i64 (Ms (.inner ks)),.int .i64 (Bg ks).length,.string (A7 (.inner ks)),.string (Ex (.inner ks)),.bool false]/\As S w ks bs
def As (S:Nat->Prop) (w:World):List Nd->List Nat->Prop
 | [],bs=>bs= []
 |k::r,bs=> ∃b t,bs=b::t/\Bm S w k b/\As S w r t
end
theorem As.imp' {S T:Nat->Prop} {w w':World}: ∀{ks:List Nd},(∀k ∈ ks,∀b,Bm S w k b->Bm T w' k b)-> ∀{bs},As S w ks bs->As T w' ks bs
 | [],_,_,h=>by
   simp only[As]at h ⊢;exact h
 |k::r,ih,bs,h=>by
  simp only[As]at h ⊢;obtain⟨b,t,e,h1,h2⟩:=h;exact⟨b,t,e,ih k (by simp) b h1,As.imp' (fun x hx=>ih x (by simp[hx])) h2⟩
theorem Bm.imp {S T:Nat->Prop} {w w':World} (hS: ∀i,i<w'.heap.size->S i->T i) (hs:w.heap.size<=w'.heap.size) (hk: ∀i,S i->i<w.heap.size->w'.heap[i]? =w.heap[i]?): ∀{n:Nd} {b:Nat},Bm S w n b->Bm T w' n b:=by
 have hc: ∀p:Addr,S p.block->p.block<w.heap.size->w'.cell? p=w.cell? p:=fun p p1 p2=>World.cell?_of_block (hk p.block p1 p2);intro n;refine Nd.ind (p:=fun n=> ∀{b:Nat},Bm S w n b->Bm T w' n b) ?_ ?_ n
 . intro es b h;simp only[Bm]at h ⊢;obtain⟨h0,hl,a,c,h1,h2⟩:=h;exact⟨hS b (by omega) h0,by omega,a,c,(h1.later hs hc).mono hS,(hk b h0 hl).trans h2⟩
 . intro ks ih b h;simp only[Bm]at h ⊢;obtain⟨h0,hl,bs,a,c,h1,h2,h3⟩:=h;exact⟨hS b (by omega) h0,by omega,bs,a,c,(h1.later hs hc).mono hS,(hk b h0 hl).trans h2,As.imp' (fun k hk' _ hb=>ih k hk' hb) h3⟩
theorem A6.of_in {S:Nat->Prop} {w:World}: ∀{ks:List Nd},(∀k ∈ ks,∀b,Bm S w k b->Cd w w.heap.size k b)-> ∀{bs},As S w ks bs->A6 w w.heap.size ks bs
 | [],_,_,h=>by
   simp only[As,A6]at h ⊢;exact h
 |k::r,ih,bs,h=>by
  simp only[As,A6]at h ⊢;obtain⟨b,t,e,h1,h2⟩:=h;exact⟨b,t,e,ih k (by simp) b h1,A6.of_in (fun x hx=>ih x (by simp[hx])) h2⟩
theorem Bm.now {S:Nat->Prop} {w:World}: ∀{n:Nd} {b:Nat},Bm S w n b->Cd w w.heap.size n b:=by
 intro n;refine Nd.ind (p:=fun n=> ∀{b:Nat},Bm S w n b->Cd w w.heap.size n b) ?_ ?_ n
 . intro es b h;simp only[Bm]at h;simp only[Cd];obtain⟨_,hl,a,c,h1,h2⟩:=h;exact⟨hl,a,c,h1.now,h2⟩
 . intro ks ih b h;simp only[Bm]at h;simp only[Cd];obtain⟨_,hl,bs,a,c,h1,h2,h3⟩:=h;exact⟨hl,bs,a,c,h1.now,h2,A6.of_in (fun k hk _ hb=>ih k hk hb) h3⟩
theorem As.now {S:Nat->Prop} {w:World} {ks:List Nd} {bs:List Nat} (h:As S w ks bs):A6 w w.heap.size ks bs:=A6.of_in (fun _ _ _ hk=>hk.now) h
theorem As.of_at {B:Nat} {w:World}: ∀{ks:List Nd},(∀k ∈ ks,∀b,Cd w B k b->Bm (fun i=>i<B) w k b)-> ∀{bs},A6 w B ks bs->As (fun i=>i<B) w ks bs
 | [],_,_,h=>by
   simp only[As,A6]at h ⊢;exact h
 |k::r,ih,bs,h=>by
  simp only[As,A6]at h ⊢;obtain⟨b,t,e,h1,h2⟩:=h;exact⟨b,t,e,ih k (by simp) b h1,As.of_at (fun x hx=>ih x (by simp[hx])) h2⟩
theorem Bm.of_old {B:Nat} {w:World} {n:Nd} {b:Nat} (h:Cd w B n b) (hB:B<=w.heap.size):Bm (fun i=>i<B) w n b:=by
 revert b
 refine Nd.ind (p:=fun n=> ∀{b:Nat},Cd w B n b->Bm (fun i=>i<B) w n b) ?_ ?_ n
 . intro es b h;simp only[Cd]at h;simp only[Bm];obtain⟨hl,a,c,h1,h2⟩:=h;exact⟨hl,by omega,a,c,Ah.of_old h1 hB (Below.refl _ _),h2⟩
 . intro ks ih b h;simp only[Cd]at h;simp only[Bm];obtain⟨hl,bs,a,c,h1,h2,h3⟩:=h;exact⟨hl,by omega,bs,a,c,Ah.of_old h1 hB (Below.refl _ _),h2,As.of_at (fun k hk _ hb=>ih k hk hb) h3⟩
section
variable {S T:Nat->Prop} {w w':World} {n:Nd} {b:Nat}
theorem As.imp {ks:List Nd} {bs:List Nat} (hS: ∀i,i<w'.heap.size->S i->T i) (hs:w.heap.size<=w'.heap.size) (hk: ∀i,S i->i<w.heap.size->w'.heap[i]? =w.heap[i]?) (h:As S w ks bs):As T w' ks bs:=As.imp' (fun _ _ _ h=>h.imp hS hs hk) h
theorem As.of_old {B:Nat} {ks:List Nd} {bs:List Nat} (h:A6 w B ks bs) (hB:B<=w.heap.size):As (fun i=>i<B) w ks bs:=As.of_at (fun _ _ _ hk=>Bm.of_old hk hB) h
theorem Bm.mono (h:Bm S w n b) (hST: ∀i,i<w.heap.size->S i->T i):Bm T w n b:=h.imp hST (Nat.le_refl _) fun _ _ _=>rfl
theorem As.mono {ks:List Nd} {bs:List Nat} (h:As S w ks bs) (hST: ∀i,i<w.heap.size->S i->T i):As T w ks bs:=h.imp hST (Nat.le_refl _) fun _ _ _=>rfl
theorem Bm.later (h:Bm S w n b) (hs:w.heap.size<=w'.heap.size) (hk: ∀i,S i->i<w.heap.size->w'.heap[i]? =w.heap[i]?):Bm S w' n b:=h.imp (fun _ _ h=>h) hs hk
theorem As.later {ks:List Nd} {bs:List Nat} (h:As S w ks bs) (hs:w.heap.size<=w'.heap.size) (hk: ∀i,S i->i<w.heap.size->w'.heap[i]? =w.heap[i]?):As S w' ks bs:=h.imp (fun _ _ h=>h) hs hk
theorem Bm.below (h:Bm S w n b) (hb:Below w.heap.size w w'):Bm S w' n b:=h.later hb.size fun i _ hi=>hb.block i hi
theorem As.below {ks:List Nd} {bs:List Nat} (h:As S w ks bs) (hb:Below w.heap.size w w'):As S w' ks bs:=h.later hb.size fun i _ hi=>hb.block i hi
theorem As.at_: ∀{ks:List Nd} {bs:List Nat},As S w ks bs-> ∀{i:Nat} {k:Nd},ks[i]? =some k-> ∃b,bs[i]? =some b/\Bm S w k b
 | [],bs,h,i,k,hi=>by simp at hi
 |x::r,bs,h,i,k,hi=>by
  simp only[As]at h;obtain⟨b,t,rfl,h1,h2⟩:=h
  cases i with
  |zero=>
   simp only[List.getElem?_cons_zero,Option.some.injEq]at hi;subst hi;exact⟨b,rfl,h1⟩
  |succ i=>
   simp only[List.getElem?_cons_succ]at hi ⊢;exact As.at_ h2 hi
theorem As.app: ∀{ks ks':List Nd} {bs bs':List Nat},As S w ks bs->As S w ks' bs'->As S w (ks++ks') (bs++bs')
 | [],ks',bs,bs',h,h'=>by
   simp only[As]at h;subst h;exact h'
 |k::r,ks',bs,bs',h,h'=>by
  simp only[As]at h;obtain⟨b,t,rfl,h1,h2⟩:=h;simp only[List.cons_append,As];exact⟨b,t++bs',rfl,h1,As.app h2 h'⟩
theorem As.one (h:Bm S w n b):As S w [n] [b]:=by
 simp only[As];exact⟨b, [],rfl,h,rfl⟩
theorem As.split: ∀{ks:List Nd} {bs:List Nat},As S w ks bs-> ∀(i:Nat),As S w (ks.take i) (bs.take i)/\As S w (ks.drop i) (bs.drop i)
 | [],bs,h,i=>by
   simp only[As]at h;subst h;simp[As]
 |k::r,bs,h,0=>by
  simp only[List.take_zero,List.drop_zero];exact⟨by simp only[As],h⟩
 |k::r,bs,h,i+1=>by
  simp only[As]at h;obtain⟨b,t,rfl,h1,h2⟩:=h;obtain⟨a1,a2⟩:=As.split h2 i;simp only[List.take_succ_cons,List.drop_succ_cons,As];exact⟨⟨b,t.take i,rfl,h1,a1⟩,a2⟩
theorem As.set: ∀{ks:List Nd} {bs:List Nat},As S w ks bs-> ∀(i:Nat) {n:Nd} {b:Nat},Bm S w n b->As S w (ks.set i n) (bs.set i b)
 | [],bs,h,i,n,b,_=>by
   simp only[As]at h;subst h;simp[As]
 |x::r,bs,h,0,n,b,hk=>by
  simp only[As]at h;obtain⟨b',t,rfl,h1,h2⟩:=h;simp only[tk5,As];exact⟨b,t,rfl,hk,h2⟩
 |x::r,bs,h,i+1,n,b,hk=>by
  simp only[As]at h;obtain⟨b',t,rfl,h1,h2⟩:=h;simp only[tk6,As];exact⟨b',t.set i b,rfl,h1,As.set h2 i hk⟩
end
end Go.Proofs.YtkmcjfkokoidcaaGreatDoor
