/- Parts: diff.walk: what it yields. Condition: trees of at most 10^6 entries, a bulk of at most 10^8. -/
import Derived.Sort.CutIn
import Derived.WalkMore
import Derived.Test.YtjgfchcldhmjcaaGreatDoorKPp22
import Derived.Test.YtjgfchcldhmjcaaGreatDoorKPp23
set_option maxHeartbeats 20000000
set_option maxRecDepth 100000
namespace Go.Proofs.YtjgfchcldhmjcaaGreatDoor
open Go Go.RowKit
theorem Bk.ownBlk {S0:Nat->Prop} {b s i:Nat} {t:TypeId} {wr:World} {l:List D} {V:Value} (h:Bk S0 b t s wr l V) (c:V.ownBlock=some i): ∃a,Ap wr i t a:=by
 obtain⟨ns,d,_⟩:=h;rcases d.2 with⟨rfl,_⟩|⟨g,cap,a,rfl,_,hg,_⟩
 . cases c
 . cases c
   exact⟨a,hg⟩
theorem Adg {w:World} {b s:Nat} {t:TypeId} {l:List Nat} {q:Nat} {V:Value} (h:Bk (fun _=>False) b t 1 w (Im (l++ [q])) V) (_:s=0): ∃g c,V=.slice (some ⟨g,0,none⟩) (l.length+1) c/\l.length+1<=c/\b<=g/\w.cell? ⟨g,l.length,none⟩=some (.pointer (some ⟨q,0,none⟩)):=by
 obtain⟨g,c,rfl,f,m,_⟩:=h.ptr (by simp[Im]);have n:=h.close;obtain⟨p,o,e,_,cs,j,_,k⟩:=n.at_ (i:=l.length) (d:=dPt q) (by simp[Im])
 cases e
 obtain⟨rfl,_⟩:=j;have a:=k 0 _ rfl;simp only[O1,List.length_append,List.length_singleton,Nat.zero_add,Nat.mul_one,Nat.add_zero]at f a ⊢;exact⟨g,c,rfl,f,m,a⟩
def Gt (D:Nat->Prop) (w:World) (C:Nat) (V:Value) (es:List Cq) (ns:List Nd):Prop:=
 ∃(ea:Option Addr) (c:Nat) (o:Int) (bs:List Nat),Ap w C M8 #[.slice ea es.length c,V,.int .i64 o]/\(0<=o/\o+((es.length+Gs ns:Nat):Int)<=100000000/\es.length<=c)/\Ai D w (.row 7 (dO es)) [.slice ea es.length c]/\
  Bk (fun _=>False) (C+1) 98 1 w (Im bs.reverse) V/\Ax D w ns bs
theorem Gt.keep {D D':Nat->Prop} {w w':World} {C:Nat} {V:Value} {d:List Cq} {ns:List Nd} (h:Gt D w C V d ns) (g: ∀i,i<w'.heap.size->D i->D' i) (b:w.heap.size<=w'.heap.size) (a: ∀i,(D i\/i=C\/V.ownBlock=some i)->i<w.heap.size->w'.heap[i]? =w.heap[i]?):Gt D' w' C V d ns:=by
 obtain⟨k,c,o,j,f,l,m,n,q⟩:=h;exact⟨k,c,o,j,(a C (.inr (.inl rfl)) f.lt).trans f,l,(m.later b fun p u v=>World.cell?_of_block (a p.block (.inl u) v)).mono g,n.keepP b fun i e r=>a i (.inr (.inr e)) r,q.imp g b fun i s t=>a i (.inl s) t⟩
theorem Gt.below {D:Nat->Prop} {w w':World} {C:Nat} {V:Value} {a:List Cq} {ns:List Nd} (h:Gt D w C V a ns) (b:Below w.heap.size w w'):Gt D w' C V a ns:=h.keep (fun _ _ h=>h) b.size fun i _ c=>b.block i c
theorem Gt.lt {D:Nat->Prop} {w:World} {C:Nat} {V:Value} {a:List Cq} {ns:List Nd} (h:Gt D w C V a ns):C<w.heap.size/\ ∀g,V.ownBlock=some g->C<g/\g<w.heap.size:=by
 obtain⟨i,c,o,f,b,j,k,d,l⟩:=h;exact⟨b.lt,fun g e=>by have:=d.base g e;omega⟩
def W5 (D:Nat->Prop) (w:World) (es:List Cq) (ns:List Nd) (p:Option Addr) (h:Int) (f l:ByteArray) (b:Bool):Prop:=
 (∃k v r,es=(k,v)::r/\p=none/\h= -1/\k=f/\k=l/\b=true)\/
 (∃n r q,es= []/\ns=n::r/\p=some ⟨q,0,none⟩/\Df D w n q/\h=Tf n/\f=Cu n/\l=Ez n/\b=true)\/
 (es= []/\ns= []/\p=none/\h=0/\f=⟨#[]⟩/\l=⟨#[]⟩/\b=false)
theorem W5.later {D:Nat->Prop} {w w':World} {c:List Cq} {ns:List Nd} {p:Option Addr} {h:Int} {f l:ByteArray} {b:Bool} (a:W5 D w c ns p h f l b) (k:Below w.heap.size w w'):W5 D w' c ns p h f l b:=by
 rcases a with a|⟨n,r,q,d,e,g,i,j⟩|a
 . exact .inl a
 . exact .inr (.inl ⟨n,r,q,d,e,g,i.below k,j⟩)
 . exact .inr (.inr a)
theorem Te (D:Nat->Prop) (C:Nat) (V:Value) (i:List Cq) (ns:List Nd) (w:World) (J:Gt D w C V i ns) (F:CurOk i ns):
 Calls Tryz.prog 211 #[.pointer (some ⟨C,0,none⟩)] w fun e w'=> ∃p h f l b,e=.returned (.tuple #[.agg #[.pointer p,.int .i64 h,.string f,.string l],.bool b])/\Below w.heap.size w w'/\W5 D w i ns p h f l b:=by
 obtain⟨B,c,o,M,u,N,H,y,j⟩:=J;have d:=F.len;have z:=Xp F.gds;rw[List.length_append]at d
 cases i with
 |cons x r=>
  obtain⟨k,v⟩:=x;obtain⟨g,A,rfl,_,O,P,Q,R,S,T,_,L⟩:=E3 H.now (q:=0) rfl;have m:=L 0 _ rfl;simp only[Nat.zero_mul,Nat.add_zero]at m;refine(Zw C g A r.length c V o k w u m).mono ?_;rintro e w' ⟨rfl,a⟩;exact⟨_,_,_,_,_,rfl,a,.inl ⟨k,v,r,rfl,rfl,rfl,rfl,rfl,rfl⟩⟩
 |nil=>
  cases ns with
  |nil=>
   simp only[Ax]at j;subst j;obtain⟨G,s,rfl⟩:=y.slice;refine(Zy C c s B G o w u).mono ?_;rintro e w' ⟨rfl,a⟩;exact⟨_,_,_,_,_,rfl,a,.inr (.inr ⟨rfl,rfl,rfl,rfl,rfl,rfl,rfl⟩)⟩
  |cons n r=>
   simp only[Ax]at j;obtain⟨q,t,rfl,E,I⟩:=j;rw[List.reverse_cons]at y;have K:=I.now.len;rw[List.length_cons]at z;obtain⟨g,s,rfl,_,_,m⟩:=Adg y rfl;refine(Zx C c s g t.reverse.length B o n q w u (by rw[List.length_reverse];omega) m E.now).mono ?_;rintro e w' ⟨rfl,a⟩;exact⟨_,_,_,_,_,rfl,a,.inr (.inl ⟨n,r,q,rfl,rfl,rfl,E,rfl,rfl,rfl,rfl⟩)⟩
theorem Rm (D:Nat->Prop) (C:Nat) (V:Value) (n:Nd) (ns:List Nd) (w:World) (G:Gt D w C V [] (n::ns)) (A:CurOk [] (n::ns)) (F: ¬D C):
 Calls Tryz.prog 212 #[.pointer (some ⟨C,0,none⟩)] w fun e w'=>e=.returned (.tuple #[])/\KB (fun i=>i=C) w w'/\ ∃V',V'.ownBlock=V.ownBlock/\Gt D w' C V' [] ns:=by
 obtain⟨v,c,o,N,x,k,E,j,y⟩:=G;have d:=A.len;have l:=Xp A.gds;rw[List.length_append]at d;simp only[Ax]at y;obtain⟨q,t,rfl,P,z⟩:=y;rw[List.reverse_cons]at j;have I:=z.now.len;rw[List.length_cons]at l;obtain⟨g,a,rfl,b,H,Q⟩:=Adg j rfl;refine(Qx C g t.reverse.length a (.slice v 0 c) o w x b (by rw[List.length_reverse];omega)).mono ?_;rintro e w' ⟨rfl,rfl⟩;have J:Bk (fun _=>False) (C+1) 98 1 w (Im t.reverse) (.slice (some ⟨g,0,none⟩) t.reverse.length a):=by
  have B:Im (t.reverse++ [q])=Im t.reverse++ [dPt q]:=by simp[Im]
  rw[B]at j;have:=j.pop
  rwa [O1]at this
 have r: ∀i,i≠C->i<w.heap.size->(w.setCell ⟨C,1,none⟩ (.slice (some ⟨g,0,none⟩) t.reverse.length a)).drew.heap[i]? =w.heap[i]? :=fun i u _=>Below.heap_setCell _ _ _ _ (fun e=>u e);have s:w.heap.size<=(w.setCell ⟨C,1,none⟩ (.slice (some ⟨g,0,none⟩) t.reverse.length a)).drew.heap.size:=by simp[World.setCell]
 have f: ∀i,D i->i≠C:=fun i m e=>F (e▸m);refine⟨rfl,(KB.set (S:=fun i=>i=C) w ⟨C,1,none⟩ rfl _).trans (KB.of_below (S:=fun i=>i=C) (Below.drew (Below.refl _ _))) fun _ _ h=>h,.slice (some ⟨g,0,none⟩) t.reverse.length a,rfl,v,c,o,t,(x.set_ 1 _).drew, ?_,E.later s fun p L M=>World.cell?_of_block (r p.block (f _ L) M),J.keepP s fun i e m=>r i (by have O:g=i:=Option.some.inj e;omega) m,z.later s fun i u K=>r i (f i u) K⟩;have:Gs ns<=Gs (n::ns):=by simp only[Gs];omega
 simp only[List.length_nil]at k ⊢;exact⟨k.1,by omega,k.2.2⟩
theorem Em (D:Nat->Prop) (C:Nat) (V:Value) (k:ByteArray) (v:Val) (a:List Cq) (ns:List Nd) (w:World) (Z:Gt D w C V ((k,v)::a) ns) (X: ¬D C) (Y:V.ownBlock≠some C):
 Calls Tryz.prog 215 #[.pointer (some ⟨C,0,none⟩)] w fun e w'=>KB (fun i=>i=C) w w'/\Gt D w' C V a ns/\ ∃h b' l n y P z A on oc,e=.returned (.agg #[.string k,.int .i64 h,.bool b',.int .i64 l,.string n,.slice y P z,.slice A on oc])/\Ai D w' (dV v) [.int .i64 h,.bool b',.int .i64 l,.string n,.slice y P z,.slice A on oc]:=by
 obtain⟨ea,c,o,Q,S,B,O,T,U⟩:=Z;obtain⟨h,b',l,n,l',o'⟩:=v;obtain⟨g,s,rfl,_,y,z,A,oc,hv,c0,c1,c2,c3,c4,c5,N⟩:=Aad O (q:=0) rfl;simp only[Nat.zero_mul,Nat.add_zero]at c0 c1 c2 c3 c4 c5 N;have r:a.length+1<=c:=B.2.2;refine(Ad1 C g s a.length c V o k h b' l n y l'.length z A o'.length oc w S r ?_).mono ?_
 . intro j u b
   match j with
   |0=>cases b;exact c0
   |1=>cases b;exact c1
   |2=>cases b;exact c2
   |3=>cases b;exact c3
   |4=>cases b;exact c4
   |5=>cases b;exact c5
   |6=>cases b;exact N
   |j+7=>simp at b
 rintro e w' ⟨rfl,d,M,F,hx⟩;have x:=d.size;have f: ∀i,D i->i≠C:=fun i G e=>X (e▸G);have t: ∀i,i≠C->i<w.heap.size->w'.heap[i]? =w.heap[i]? :=fun i H I=>d.block i I H;refine⟨d,⟨M,c - 1,o,Q,hx, ?_, ?_,T.keepP x fun i e G=>t i (by rintro rfl;exact Y e) G,U.later x fun i H I=>t i (f i H) I⟩,_,_,_,_,_,_,_,_,_,_,rfl,hv.later x fun p J K=>World.cell?_of_block (t p.block (f _ J) K)⟩
 . simp only[List.length_cons]at B;exact⟨B.1,by omega,by omega⟩
 . have W:Ai D w' (.row 7 (dO ((k,.mk h b' l n l' o')::a))) [.slice (some ⟨g,s,none⟩) (a.length+1) c]:=O.later x fun p J K=>World.cell?_of_block (t p.block (f _ J) K);intro L q1 q2;have E:=(W L q1 q2).cutR (i:=1) (m:=a.length) (by simp[Cb];omega) (c - 1);have R:(dO ((k,.mk h b' l n l' o')::a)).drop 1=dO a:=by simp[dO]
   rw[R]at E;by_cases h0:a.length=0
   . have:a= []:=List.eq_nil_of_length_eq_zero h0;subst this;exact⟨M,c - 1,rfl,by simp[dO], [],rfl,.inl rfl⟩
   . rw[F h0];rw[Nat.one_mul]at E;exact E
structure TC (W:World) (T K:Nat->Prop) (X Y:Nat) (Vx Vy:Value) (ex:List Cq) (nx:List Nd) (ey:List Cq) (ny:List Nd):Prop where
 x:Gt (fun i=>K i/\ ¬T i) W X Vx ex nx
 y:Gt (fun i=>K i/\ ¬T i) W Y Vy ey ny
 okx:CurOk ex nx
 oky:CurOk ey ny
 kb: ∀i,K i->i<W.heap.size
 tk: ∀i,T i->K i
 tx:T X/\ ∀g,Vx.ownBlock=some g->T g/\g≠Y
 ty:T Y/\ ∀g,Vy.ownBlock=some g->T g/\g≠X
 ne:X≠Y/\ ∀g,Vx.ownBlock=some g->Vy.ownBlock≠some g
section
variable {W W':World} {T K:Nat->Prop} {X Y:Nat} {Vx Vy:Value} {ex:List Cq} {nx:List Nd} {ey:List Cq} {ny:List Nd}
theorem TC.swap (h:TC W T K X Y Vx Vy ex nx ey ny):TC W T K Y X Vy Vx ey ny ex nx:=
 ⟨h.y,h.x,h.oky,h.okx,h.kb,h.tk,h.ty,h.tx,h.ne.1.symm,fun g e a=>h.ne.2 g a e⟩
theorem TC.keep (h:TC W T K X Y Vx Vy ex nx ey ny) (c:KB (fun i=> ¬K i) W W'):TC W' T K X Y Vx Vy ex nx ey ny:=by
 have d: ∀i,i<W.heap.size->K i->W'.heap[i]? =W.heap[i]? :=fun i a b=>c.block i a fun h=>h b;exact⟨h.x.keep (fun _ _ h=>h) c.size fun i a b=>d i b (by
  rcases a with a|a|a
  . exact a.1
  . exact a▸h.tk X h.tx.1
  . exact h.tk i (h.tx.2 i a).1),h.y.keep (fun _ _ h=>h) c.size fun i a b=>d i b (by
  rcases a with a|a|a
  . exact a.1
  . exact a▸h.tk Y h.ty.1
  . exact h.tk i (h.ty.2 i a).1),h.okx,h.oky,fun i e=>Nat.lt_of_lt_of_le (h.kb i e) c.size,h.tk,h.tx,h.ty,h.ne⟩
theorem TC.below (h:TC W T K X Y Vx Vy ex nx ey ny) (a:Below W.heap.size W W'):TC W' T K X Y Vx Vy ex nx ey ny:=h.keep (KB.of_below a)
def Ahn (W W':World) (T K T' K':Nat->Prop):Prop:=KB T W W'/\(∀i,i<W.heap.size->(T' i ↔ T i)/\(K' i ↔ K i))/\ ∀i,K' i->i<W'.heap.size
theorem TC.step {V':Value} {j:List Cq} {n:List Nd} (h:TC W T K X Y Vx Vy ex nx ey ny) (m:KB (fun i=>i=X\/Vx.ownBlock=some i) W W')
 (v:Gt (fun i=>(K i/\ ¬T i)\/(W.heap.size<=i/\V'.ownBlock≠some i)) W' X V' j n) (B:CurOk j n) (u:V'.ownBlock=Vx.ownBlock\/ ∃g,V'.ownBlock=some g/\W.heap.size<=g):
 TC W' (fun i=>T i\/V'.ownBlock=some i) (fun i=>K i\/(W.heap.size<=i/\i<W'.heap.size)) X Y V' Vy j n ey ny/\Ahn W W' T K (fun i=>T i\/V'.ownBlock=some i) (fun i=>K i\/(W.heap.size<=i/\i<W'.heap.size)):=by
 have s:=m.size;have q: ∀i,i<W.heap.size->V'.ownBlock=some i->T i:=fun i c a=>by
  rcases u with e|⟨g,e,w⟩
  . exact(h.tx.2 i (e▸a)).1
  . rw[e]at a;cases a;omega
 have o: ∀i,T i->i<W.heap.size:=fun i d=>h.kb i (h.tk i d);have z:=h.kb X (h.tk X h.tx.1);have A:=h.kb Y (h.tk Y h.ty.1);have l: ∀g,V'.ownBlock=some g->(T g/\Vx.ownBlock=some g)\/W.heap.size<=g:=fun g e=>by
  rcases u with f|⟨D,f,w⟩
  . exact .inl ⟨(h.tx.2 g (f▸e)).1,f▸e⟩
  . rw[f]at e;cases e;exact .inr w
 have r:=v.lt;have p:KB T W W':=⟨m.os,m.tape,m.output,m.size,fun k C x=>m.block k C (by
  rintro(e|e)
  . exact x (e▸h.tx.1)
  . exact x (h.tx.2 k e).1)⟩
 refine⟨⟨v.keep (fun i c a=> ?_) (Nat.le_refl _) fun _ _ _=>rfl,h.y.keep (fun i c a=> ?_) s fun i c a=>m.block i a ?_,B,h.oky, ?_, ?_, ?_, ?_,h.ne.1, ?_⟩,⟨p,fun i d=>⟨⟨fun b=>b.elim id (q i d),.inl⟩,⟨fun b=>b.elim id fun t=>by omega,.inl⟩⟩, ?_⟩⟩
 . rcases a with a|a
   . refine⟨.inl a.1,fun b=>b.elim a.2 fun e=>a.2 (q i (h.kb i a.1) e)⟩
   . exact⟨.inr ⟨a.1,c⟩,fun b=>b.elim (fun t=>by have:=o i t;omega) a.2⟩
 . exact⟨.inl a.1,fun b=>b.elim a.2 fun e=>a.2 (q i (h.kb i a.1) e)⟩
 . rintro(e|e)
   . subst e;rcases c with c|c|c
     . exact c.2 h.tx.1
     . exact h.ne.1 c
     . exact(h.ty.2 _ c).2 rfl
   . rcases c with c|c|c
     . exact c.2 (h.tx.2 i e).1
     . exact(h.tx.2 i e).2 c
     . exact h.ne.2 i e c
 . rintro i (d|d)
   . exact Nat.lt_of_lt_of_le (h.kb i d) s
   . exact d.2
 . rintro i (d|d)
   . exact .inl (h.tk i d)
   . rcases l i d with b|b
     . exact .inl (h.tk i b.1)
     . exact .inr ⟨b,(r.2 i d).2⟩
 . refine⟨.inl h.tx.1,fun g e=>⟨.inr e, ?_⟩⟩;rcases l g e with b|b
   . exact(h.tx.2 g b.2).2
   . omega
 . exact⟨.inl h.ty.1,fun g e=>⟨.inl (h.ty.2 g e).1,(h.ty.2 g e).2⟩⟩
 . intro g e f;rcases l g e with b|b
   . exact h.ne.2 g b.2 f
   . have:=o g (h.ty.2 g f).1;omega
 . rintro i (d|d)
   . exact Nat.lt_of_lt_of_le (h.kb i d) s
   . exact d.2
end
theorem C7 (D:Nat->Prop) (C:Nat) (V:Value) (n:Nd) (ns:List Nd) (w:World) (R:Gt D w C V [] (n::ns)) (s:CurOk [] (n::ns)) (I: ¬D C) (Q: ∀g,V.ownBlock=some g-> ¬D g) (_: ∀i,D i->i<w.heap.size):
 Calls Tryz.prog 213 #[.pointer (some ⟨C,0,none⟩)] w fun e w'=>e=.returned (.tuple #[])/\KB (fun i=>i=C\/V.ownBlock=some i) w w'/\ ∃V' d f,Gt (fun i=>D i\/(w.heap.size<=i/\V'.ownBlock≠some i)) w' C V' d f/\CurOk d f/\d++B9 f=B9 (n::ns)/\d.length+Gs f+1=Gs (n::ns)/\(V'.ownBlock=V.ownBlock\/ ∃g,V'.ownBlock=some g/\w.heap.size<=g):=by
 obtain⟨L,c,o,bs,N,F,h3,m,G⟩:=R;have j:=s.len;have x:=Xp s.gds;rw[List.length_append]at j;simp only[Ax]at G;obtain⟨q,t,rfl,O,H⟩:=G;rw[List.reverse_cons]at m;have W:=H.now.len;rw[List.length_cons]at x;obtain⟨g,u,rfl,p,U,s0⟩:=Adg m rfl;have S:=Q g rfl;have X:=m.base g rfl;have y: ∀i,D i-> ¬(i=C\/i=g):=fun i b h=>by
  rcases h with e|e
  . exact I (e▸b)
  . exact S (e▸b)
 have r:=s.gds n (by simp);have Y:Bk (fun _=>False) (C+1) 98 1 w (Im t.reverse) (.slice (some ⟨g,0,none⟩) t.reverse.length u):=by
  have K:Im (t.reverse++ [q])=Im t.reverse++ [dPt q]:=by simp[Im]
  rw[K]at m;have:=m.pop
  rwa [O1]at this
 have Z:0<wtN n:=by cases n<;>(simp only[wtN];omega)
 have l:=s.bulk;simp only[List.length_nil,List.nil_append,Gs]at F l
 cases n with
 |leaf es=>
  have v:Af es<=100000000:=by
   simp only[B9,On]at l;rw[Gn]at l;omega
  refine(Aam D C g t.reverse.length u c L o es q w N p (by rw[List.length_reverse];omega) (by omega) s0 O I r.leaf v).mono ?_;rintro e w' ⟨rfl,a,M,T,hx,P⟩;have z:=a.size;have J: ∀i,i≠C->i<w.heap.size->w'.heap[i]? =w.heap[i]? :=fun i A B=>a.block i B A;refine⟨rfl,⟨a.os,a.tape,a.output,z,fun k k1 k2=>a.block k k1 fun h=>k2 (.inl h)⟩,.slice (some ⟨g,0,none⟩) t.reverse.length u,es,ns,⟨_,_,_,t,hx, ?_, ?_,Y.keepP z fun i e b=>J i (by have E:g=i:=Option.some.inj e;omega) b,H.imp (fun i _ b=> .inl b) z fun i A B=>J i (fun e=>y i A (.inl e)) B⟩,s.openL,by simp only[B9,On],by simp only[Gs,wtN];omega,.inl rfl⟩
  . simp only[wtN]at F;exact⟨by omega,by omega,Nat.le_refl _⟩
  . refine(P.closeIn).mono fun i _ b=> .inr ?_;rcases b with b|b
    . exact⟨b,fun e=>by have E:g=i:=Option.some.inj e;omega⟩
    . have e3:M=i:=Option.some.inj b;exact⟨by omega,fun e=>by have E:g=i:=Option.some.inj e;omega⟩
 |inner ks=>
  exfalso
  have h8:=Aik r;simp only[B9,List.length_append]at j;omega
attribute [local go_sem] Oper.semAt_some
def Qi:List Value:= [.int .i64 0,.bool false,.int .i64 0,.string ⟨#[]⟩,.slice none 0 0,.slice none 0 0]
def Gl (D:Nat->Prop) (A:World):Option Val->List Value->Prop
 |some v,cs=>Ai D A (dV v) cs
 |none,cs=>cs=Qi
def Ng (x:Chg) (q:List Value×List Value):Array Value:= #[.agg ([Value.string x.1,Value.bool x.2.1.isSome]++q.1++ [Value.bool x.2.2.isSome]++q.2).toArray]
def ChE (x:Chg) (q:List Value×List Value) (D:Nat->Prop) (A:World):Prop:=Gl D A x.2.1 q.1/\Gl D A x.2.2 q.2
theorem Gl.keep {D D':Nat->Prop} {A B:World} {o:Option Val} {cs:List Value} (h:Gl D A o cs) (a: ∀i,i<B.heap.size->D i->D' i) (c:A.heap.size<=B.heap.size) (b: ∀i,D i->i<A.heap.size->B.heap[i]? =A.heap[i]?):Gl D' B o cs:=by
 cases o with
 |none=>exact h
 |some v=>exact(Ai.later (S:=D) h c fun p d e=>World.cell?_of_block (b p.block d e)).mono a
theorem ChE.put (x:Chg) (q:List Value×List Value) (D:Nat->Prop) (A:World) (k:Nat) (o':Obj) (h:ChE x q D A) (b: ¬D k):ChE x q D (A.putObj k o'):=
 ⟨h.1.keep (fun _ _ h=>h) (by simp[World.putObj]) fun i a _=>World.putObj_heap_other (fun e=>b (e▸a)),h.2.keep (fun _ _ h=>h) (by simp[World.putObj]) fun i a _=>World.putObj_heap_other (fun e=>b (e▸a))⟩
theorem Amt {a b:ByteArray} (d: ¬Er a b=true) (e: ¬Er b a=true):a=b:=by
 rcases Kb a b with c|c|c
 . exact absurd c d
 . exact c
 . exact absurd c e
theorem Gl.step {W b g:World} {T K f e:Nat->Prop} {v:Val} {cs:List Value} (h:Ai (fun i=>K i/\ ¬T i) b (dV v) cs) (a:Ahn W b T K f e) (j: ∀i,K i->i<W.heap.size) (k:Below b.heap.size b g):Gl (fun i=>e i/\ ¬f i) g (some v) cs:=
 Ai.mono (S:=fun i=>K i/\ ¬T i) (T:=fun i=>e i/\ ¬f i) (d:=dV v) (Ai.below h k) fun i _ c=>⟨(a.2.1 i (j i c.1)).2.2 c.1,fun h=>c.2 ((a.2.1 i (j i c.1)).1.1 h)⟩
theorem Gl.now {D:Nat->Prop} {A:World} {v:Val} {cs:List Value} (h:Gl D A (some v) cs):Ag A A.heap.size (dV v) cs:=Ai.now (S:=D) h
theorem Abo (n l:Nat) (xs:List Chg) (J:List Chg->(Nat->Prop)->(Nat->Prop)->World->Prop)
 (w: ∀s T K A T' K' B,J s T K A->KB T A B->(∀i,i<A.heap.size->(T' i ↔ T i)/\(K' i ↔ K i))->(∀i,K' i->i<B.heap.size)->J s T' K' B)
 (hY: ∀pre x rest q T K A,xs=pre++x::rest->J pre T K A->ChE x q (fun i=>K i/\ ¬T i) A->(∀i,T i->K i)->(∀i,K i->i<A.heap.size)->YieldAt Fence.wide n Tryz.prog l (Ng x q) A fun e B=>e=.returned (.bool true)/\J (pre++ [x]) T K B/\KB (fun i=> ¬K i) A B)
 (a7:List Chg) (T0 K0:Nat->Prop) (X Y:Nat) (b9 ca:Value) (a8 a9:List Cq) (bf bg:List Nd) (W:World) (cd:J a7 T0 K0 W) (bi:TC W T0 K0 X Y b9 ca a8 bf a9 bg) (cj:xs=a7++D1 (a8++B9 bf) (a9++B9 bg)):
 CallsIn Fence.wide (n+1) Tryz.prog 149 #[.pointer (some ⟨X,0,none⟩),.pointer (some ⟨Y,0,none⟩),.func (.yield l) #[] #[]] W fun e B=>e=.returned (.tuple #[])/\ ∃T K,J xs T K B:=by
 obtain⟨PO,bn⟩: ∃P:Ending->World->Prop,(fun e B=>e=.returned (.tuple #[])/\ ∃T K,J xs T K B)=P:=⟨_,rfl⟩;rw[bn];refine callsIn_of_wp Tryz.func149 rfl trivial ?_ rfl;simp only[Tryz.ntmps149,List.size_toArray,List.length_cons,List.length_nil,Nat.reduceAdd,Nat.reduceSub,Array.replicate_succ,Array.replicate_zero,List.push_toArray,List.append_toArray,List.nil_append,List.cons_append];obtain⟨b5,bh,b8,cl⟩:=hid4 cd bi cj bn;clear cd bi cj bn;refine wpIn_wide.2 (wp_scope_straight ((wpIn_wide (n:=n+1)).1 ?_));refine wpIn_seq (wpIn_label ?_);show Code.wpIn _ _ _ _ _ _ _
 gi_wp2_with (fail)
 gi_loopg [] (a8.length+Gs bf+(a9.length+Gs bg)) (fun k wr=> ∃pre T K Vx Vy ex M ey N,k=List.length ex+Gs M+(List.length ey+Gs N)/\Hid (J pre T K wr)/\Hid (xs=pre++D1 (ex++B9 M) (ey++B9 N))/\Hid (TC wr T K X Y Vx Vy ex M ey N))
 case atStart=>exact⟨a7,T0,K0,b9,ca,a8,bf,a9,bg,rfl,b5,b8,bh⟩
 case round=>
  obtain⟨pre,T,K,Vx,Vy,ex,M,ey,N,rfl,hJ,V,bo⟩:=hrel;clear b5 bh b8;have HX:=qz (Te _ X Vx ex M wr bo.out.x bo.out.okx)
  gi_wp2_with (fail)
  refine⟨trivial, ?_⟩
  gi_at_call 211
  refine(callsIn_wide.2 HX.out).mono ?_;rintro e w1 ⟨p1,h1,f1,l1,b1,rfl,ap,bc⟩
  gi_wp2_with (fail)
  obtain⟨w2,bd⟩: ∃w2,w1.alloc (.cells #[.pointer p1,.int .i64 h1,.string f1,.string l1] Thd)=w2:=⟨_,rfl⟩;have ba:Ap w2 w1.heap.size Thd #[.pointer p1,.int .i64 h1,.string f1,.string l1]:=bd▸Ap.new _ _ _;have aq:Below w1.heap.size w1 w2:=bd▸Aa _ _;rw[bd];have bb:=(bo.out.below ap).below aq;have bj:=(bc.later ap).later aq;have b6:=qz (Te _ Y Vy ey N w2 bb.y bb.oky);clear HX bd bc;refine⟨trivial, ?_⟩
  gi_at_call 211
  refine(callsIn_wide.2 b6.out).mono ?_;rintro e w3 ⟨p2,h2,f2,l2,b2,rfl,am,cg⟩
  gi_upto_region 4 with(fail)
  obtain⟨w4,be⟩: ∃w4,w3.alloc (.cells #[.pointer p2,.int .i64 h2,.string f2,.string l2] Thd)=w4:=⟨_,rfl⟩;have ar:Below w3.heap.size w3 w4:=be▸Aa _ _;have az:=(ba.below am ba.lt).below ar (by have:=ba.lt;have:=am.size;omega);have a0:Ap w4 w3.heap.size Thd #[.pointer p2,.int .i64 h2,.string f2,.string l2]:=be▸Ap.new _ _ _;rw[be];have b:=(bb.below am).below ar;have bc:=(bj.later am).later ar;have a4:=(cg.later am).later ar;have cf:Below wr.heap.size wr w4:=((ap.trans (aq.mono ap.size)).trans (am.mono (by have:=ap.size;have:=aq.size;omega))).trans (ar.mono (by have:=ap.size;have:=aq.size;have:=am.size;omega));have u:J pre T K w4:=w _ _ _ _ _ _ _ hJ.out (KB.of_below cf) (fun _ _=>⟨Iff.rfl,Iff.rfl⟩) b.kb;obtain⟨u0,u1,u2,u3⟩:w4.cell? ⟨w1.heap.size,0,none⟩=some (.pointer p1)/\w4.cell? ⟨w1.heap.size,1,none⟩=some (.int .i64 h1)/\w4.cell? ⟨w1.heap.size,2,none⟩=some (.string f1)/\w4.cell? ⟨w1.heap.size,3,none⟩=some (.string l1):=⟨az.cell 0,az.cell 1,az.cell 2,az.cell 3⟩;obtain⟨v0,v1,v2,v3⟩:w4.cell? ⟨w3.heap.size,0,none⟩=some (.pointer p2)/\w4.cell? ⟨w3.heap.size,1,none⟩=some (.int .i64 h2)/\w4.cell? ⟨w3.heap.size,2,none⟩=some (.string f2)/\w4.cell? ⟨w3.heap.size,3,none⟩=some (.string l2):=⟨a0.cell 0,a0.cell 1,a0.cell 2,a0.cell 3⟩;clear be cf ar am aq ap az a0 ba b6 bb bj cg hJ;have G: ¬(K X/\ ¬T X):=fun h=>h.2 b.tx.1;have H: ¬(K Y/\ ¬T Y):=fun h=>h.2 b.ty.1;have Q: ∀g,Vx.ownBlock=some g-> ¬(K g/\ ¬T g):=fun g e h=>h.2 (b.tx.2 g e).1;have O: ∀g,Vy.ownBlock=some g-> ¬(K g/\ ¬T g):=fun g e h=>h.2 (b.ty.2 g e).1;have E: ∀i,(K i/\ ¬T i)->i<w4.heap.size:=fun i h=>b.kb i h.1;rcases bc with⟨k1,x1,r1,rfl,rfl,rfl,rfl,rfl,rfl⟩|⟨n1,r1,q1,rfl,rfl,rfl,hn1,rfl,rfl,rfl,rfl⟩|⟨rfl,rfl,rfl,rfl,rfl,rfl,rfl⟩
  . rcases a4 with⟨k2,x2,r2,rfl,rfl,rfl,rfl,rfl,rfl⟩|⟨n2,r2,q2,rfl,rfl,rfl,hn2,rfl,rfl,rfl,rfl⟩|⟨rfl,rfl,rfl,rfl,rfl,rfl,rfl⟩
    . by_cases c1:Er k1 k2=true
      . have al:Op.bytesLess (k1).toList (k2).toList=true:=c1;have o:D1 ((k1,x1)::(r1++B9 M)) ((k2,x2)::(r2++B9 N))=(k1,some x1,none)::D1 (r1++B9 M) ((k2,x2)::(r2++B9 N)):=Sv (Mn (by simpa using b.oky.asc) rfl c1);have I:=qz (Em _ X Vx k1 x1 r1 M w4 b.x G (fun e=>by have:=(b.x.lt.2 X e).1;omega));clear G Q H O E
        gi_wp2_with (fail)
        refine⟨trivial, ?_⟩
        gi_at_call 215
        refine(callsIn_wide.2 I.out).mono ?_;rintro e w5 ⟨c,F,k',b',n',t',la,ln,lc,oa,on,oc,rfl,Z⟩;obtain⟨d,a⟩:=b.step (V':=Vx) ⟨c.os,c.tape,c.output,c.size,fun k a1 a2=>c.block k a1 fun h=>a2 (.inl h)⟩ (F.keep (fun i _ hi=> .inl hi) (Nat.le_refl _) fun _ _ _=>rfl) b.okx.tail (.inl rfl);have m:=qz (w _ _ _ _ _ _ _ u a.1 a.2.1 a.2.2);have aa:=qz (N8 k1 k' b' n' t' la ln lc oa on oc w5);obtain⟨Hv,j,ac⟩:=hid3 Z d a;clear c F d a Z u I u0 u1 u2 u3 v0 v1 v2 v3
        gi_wp2_with (fail)
        refine⟨trivial, ?_⟩
        gi_at_call 214
        refine(callsIn_wide.2 aa.out).mono ?_;rintro e w6 ⟨rfl,R⟩;have f:=j.out.below R;have ad:=w _ _ _ _ _ _ _ m.out (KB.of_below R) (fun _ _=>⟨Iff.rfl,Iff.rfl⟩) f.kb;have L:xs=pre++(k1,some x1,none)::D1 (r1++B9 M) (((k2,x2)::r2)++B9 (N)):=by
         rw[V.out];simp only[List.cons_append];rw[o]
        have Z:=Hv.out;have a:=ac.out;have ai:=hY pre (k1,some x1,none) (D1 (r1++B9 M) (((k2,x2)::r2)++B9 (N))) ([.int .i64 k',.bool b',.int .i64 n',.string t',.slice la ln lc,.slice oa on oc],Qi) _ _ w6 L ad ⟨Gl.step Z a b.kb R,rfl⟩ f.tk f.kb;have ah:Hid (xs=(pre++ [(k1,some x1,none)])++D1 (r1++B9 M) (((k2,x2)::r2)++B9 (N))):=by
         show _=_;rw[L];simp
        have ab:=qz f;obtain⟨fn,tmps,assign,body,hy,hR⟩:=ai;simp only[Ng,Qi,Option.isSome_some,Option.isSome_none,List.cons_append,List.nil_append]at hy;clear f ad L Z a Hv ac j m w b aa o
        gi_wp2_with (refine hR.mono ?_;rintro e w7 ⟨rfl,ag,ae⟩;clear hy hR)
        gi_roundg (List.length r1+Gs M+(List.length ((k2,x2)::r2)+Gs (N)))
        case rel=>exact⟨pre++ [(k1,some x1,none)],_,_,Vx,Vy,r1,M,(k2,x2)::r2,N,rfl,qz ag,ah,qz (ab.out.keep ae)⟩
        case measure=>simp only[List.length_cons];omega
      . have al:Op.bytesLess (k1).toList (k2).toList=false:=Bool.eq_false_iff.2 c1;by_cases c2:Er k2 k1=true
        . have ao:Op.bytesLess (k2).toList (k1).toList=true:=c2;have o:D1 ((k1,x1)::(r1++B9 M)) ((k2,x2)::(r2++B9 N))=(k2,none,some x2)::D1 ((k1,x1)::(r1++B9 M)) (r2++B9 N):=Su (Mn (by simpa using b.okx.asc) rfl c2);have I:=qz (Em _ Y Vy k2 x2 r2 N w4 b.y H (fun e=>by have:=(b.y.lt.2 Y e).1;omega));clear G Q H O E
          gi_wp2_with (fail)
          refine⟨trivial, ?_⟩
          gi_at_call 215
          refine(callsIn_wide.2 I.out).mono ?_;rintro e w5 ⟨c,F,k',b',n',t',la,ln,lc,oa,on,oc,rfl,Z⟩;obtain⟨d,a⟩:=b.swap.step (V':=Vy) ⟨c.os,c.tape,c.output,c.size,fun k a1 a2=>c.block k a1 fun h=>a2 (.inl h)⟩ (F.keep (fun i _ hi=> .inl hi) (Nat.le_refl _) fun _ _ _=>rfl) b.oky.tail (.inl rfl);have m:=qz (w _ _ _ _ _ _ _ u a.1 a.2.1 a.2.2);have aa:=qz (Nz k2 k' b' n' t' la ln lc oa on oc w5);obtain⟨Hv,j,ac⟩:=hid3 Z d a;clear c F d a Z u I u0 u1 u2 u3 v0 v1 v2 v3
          gi_wp2_with (fail)
          refine⟨trivial, ?_⟩
          gi_at_call 216
          refine(callsIn_wide.2 aa.out).mono ?_;rintro e w6 ⟨rfl,R⟩;have f:=j.out.below R;have ad:=w _ _ _ _ _ _ _ m.out (KB.of_below R) (fun _ _=>⟨Iff.rfl,Iff.rfl⟩) f.kb;have L:xs=pre++(k2,none,some x2)::D1 (((k1,x1)::r1)++B9 (M)) (r2++B9 N):=by
           rw[V.out];simp only[List.cons_append];rw[o]
          have Z:=Hv.out;have a:=ac.out;have ai:=hY pre (k2,none,some x2) (D1 (((k1,x1)::r1)++B9 (M)) (r2++B9 N)) (Qi, [.int .i64 k',.bool b',.int .i64 n',.string t',.slice la ln lc,.slice oa on oc]) _ _ w6 L ad ⟨rfl,Gl.step Z a b.swap.kb R⟩ f.tk f.kb;have ah:Hid (xs=(pre++ [(k2,none,some x2)])++D1 (((k1,x1)::r1)++B9 (M)) (r2++B9 N)):=by
           show _=_;rw[L];simp
          have ab:=qz f;obtain⟨fn,tmps,assign,body,hy,hR⟩:=ai;simp only[Ng,Qi,Option.isSome_some,Option.isSome_none,List.cons_append,List.nil_append]at hy;clear f ad L Z a Hv ac j m w b aa o
          gi_wp2_with (refine hR.mono ?_;rintro e w7 ⟨rfl,ag,ae⟩;clear hy hR)
          gi_roundg (List.length ((k1,x1)::r1)+Gs (M)+(List.length r2+Gs N))
          case rel=>exact⟨pre++ [(k2,none,some x2)],_,_,Vx,Vy,(k1,x1)::r1,M,r2,N,rfl,qz ag,ah,qz (ab.out.swap.keep ae)⟩
          case measure=>simp only[List.length_cons];omega
        . have ao:Op.bytesLess (k2).toList (k1).toList=false:=Bool.eq_false_iff.2 c2;obtain rfl:=Amt c1 c2;have c0:Op.bytesLess k1.toList k1.toList=false:=al;have o:D1 ((k1,x1)::(r1++B9 M)) ((k1,x2)::(r2++B9 N))=if Fs x1 x2 then D1 (r1++B9 M) (r2++B9 N)else(k1,some x1,some x2)::D1 (r1++B9 M) (r2++B9 N):=Ab9;have I:=qz (Em _ X Vx k1 x1 r1 M w4 b.x G (fun e=>by have:=(b.x.lt.2 X e).1;omega));clear G Q H O E
          gi_wp2_with (fail)
          refine⟨trivial, ?_⟩
          gi_at_call 215
          refine(callsIn_wide.2 I.out).mono ?_;rintro e w5 ⟨c,F,k',b',n',t',la,ln,lc,oa,on,oc,rfl,Z⟩;obtain⟨d,a⟩:=b.step (V':=Vx) ⟨c.os,c.tape,c.output,c.size,fun k a1 a2=>c.block k a1 fun h=>a2 (.inl h)⟩ (F.keep (fun i _ hi=> .inl hi) (Nat.le_refl _) fun _ _ _=>rfl) b.okx.tail (.inl rfl);have m:=qz (w _ _ _ _ _ _ _ u a.1 a.2.1 a.2.2);have ci:=Gl.step Z a b.kb (Below.refl _ _);have aw:=qz (Em _ Y Vy k1 x2 r2 N w5 d.y (fun h=>h.2 d.ty.1) (fun e=>by have:=(d.y.lt.2 Y e).1;omega));obtain⟨j,b7⟩:=hid2 d ci;clear c F d a u I u0 u1 u2 u3 v0 v1 v2 v3 Z ci
          gi_wp2_with (fail)
          refine⟨trivial, ?_⟩
          gi_at_call 215
          refine(callsIn_wide.2 aw.out).mono ?_;rintro e w6 ⟨c,F,bs,bm,bw,b3,bt,bv,bu,bx,b0,bz,rfl,Z⟩;obtain⟨f,a⟩:=j.out.swap.step (V':=Vy) ⟨c.os,c.tape,c.output,c.size,fun k a1 a2=>c.block k a1 fun h=>a2 (.inl h)⟩ (F.keep (fun i _ hi=> .inl hi) (Nat.le_refl _) fun _ _ _=>rfl) j.out.oky.tail (.inl rfl);have av:=qz (w _ _ _ _ _ _ _ m.out a.1 a.2.1 a.2.2);have a6:=Gl.step Z a j.out.kb (Below.refl _ _);have a5:=b7.out.keep (D':=_) (B:=w6) (fun i _ hi=>(⟨(a.2.1 i (j.out.kb i hi.1)).2.2 hi.1,fun h=>hi.2 ((a.2.1 i (j.out.kb i hi.1)).1.1 h)⟩:_/\ ¬_)) c.size fun i hi i2=>a.1.block i i2 hi.2;have bp:=b.okx.bulk;have bq:=b.oky.bulk;simp only[List.cons_append,Af,E7]at bp bq;have b4:=qz (Xd k1 k1 x1 x2 _ _ _ _ _ _ _ _ _ _ _ _ w6 (Gl.now a5) (Gl.now a6) (by omega) (by omega));have ab:=qz f.swap;obtain⟨ax,ay⟩:=hid2 a5 a6;clear c F f a Z a5 a6 j b7 m aw b
          gi_wp2_with (fail)
          refine⟨trivial, ?_⟩
          gi_at_call 217
          refine(callsIn_wide.2 b4.out).mono ?_;clear b4;rintro e w7 ⟨au,rfl⟩;have aj:=ab.out.below au;have ag:=w _ _ _ _ _ _ _ av.out (KB.of_below au) (fun _ _=>⟨Iff.rfl,Iff.rfl⟩) aj.kb
          cases hsm:Fs x1 x2 with
          |true=>
           rw[if_pos rfl];have ak:=Aa w7 (.cells Qn Tch);have bk:=qz (aj.below ak);have ck:=qz (w _ _ _ _ _ _ _ ag (KB.of_below ak) (fun _ _=>⟨Iff.rfl,Iff.rfl⟩) (aj.below ak).kb);have bl:Hid (xs=pre++D1 (r1++B9 M) (r2++B9 N)):=by
            show _=_;rw[V.out];simp only[List.cons_append];rw[o,hsm,if_pos rfl]
           clear ak aj ag au ab ax ay av o hsm bp bq
           gi_wp2_with (fail)
           refine⟨fun _ h=>(by cases h), ?_⟩
           gi_wp2_with (fail)
           gi_roundg (List.length r1+Gs M+(List.length r2+Gs N))
           case rel=>exact⟨pre,_,_,Vx,Vy,r1,M,r2,N,rfl,ck,bl,bk⟩
           case measure=>simp only[List.length_cons];omega
          |false=>
           rw[if_neg (by simp)];obtain⟨w8,br⟩: ∃w8,w7.alloc (.cells #[.string k1,.bool true,.int .i64 k',.bool b',.int .i64 n',.string t',.slice la ln lc,.slice oa on oc,.bool true,.int .i64 bs,.bool bm,.int .i64 bw,.string b3,.slice bt bv bu,.slice bx b0 bz] Tch)=w8:=⟨_,rfl⟩;have ak:Below w7.heap.size w7 w8:=br▸Aa _ _;have af:Ap w8 w7.heap.size Tch #[.string k1,.bool true,.int .i64 k',.bool b',.int .i64 n',.string t',.slice la ln lc,.slice oa on oc,.bool true,.int .i64 bs,.bool bm,.int .i64 bw,.string b3,.slice bt bv bu,.slice bx b0 bz]:=br▸Ap.new _ _ _;have a3:=aj.below ak;have ce:=w _ _ _ _ _ _ _ ag (KB.of_below ak) (fun _ _=>⟨Iff.rfl,Iff.rfl⟩) a3.kb;have an:Below w6.heap.size w6 w8:=au.trans (ak.mono au.size);have cb:=ax.out.keep (fun _ _ h=>h) an.size fun i _ hi=>an.block i hi;have cc:=ay.out.keep (fun _ _ h=>h) an.size fun i _ hi=>an.block i hi;have L:xs=pre++(k1,some x1,some x2)::D1 (r1++B9 M) (r2++B9 N):=by
            rw[V.out];simp only[List.cons_append];rw[o,hsm,if_neg (by simp)]
           have ai:=hY pre (k1,some x1,some x2) (D1 (r1++B9 M) (r2++B9 N)) ([.int .i64 k',.bool b',.int .i64 n',.string t',.slice la ln lc,.slice oa on oc], [.int .i64 bs,.bool bm,.int .i64 bw,.string b3,.slice bt bv bu,.slice bx b0 bz]) _ _ w8 L ce ⟨cb,cc⟩ a3.tk a3.kb;have bl:Hid (xs=(pre++ [(k1,some x1,some x2)])++D1 (r1++B9 M) (r2++B9 N)):=by
            show _=_;rw[L];simp
           have bk:=qz a3;obtain⟨fn,tmps,assign,body,hy,hR⟩:=ai;simp only[Ng,Option.isSome_some,List.cons_append,List.nil_append]at hy;clear ak aj ag au ab ax ay av o hsm bp bq a3 ce an cb cc L w
           gi_upto_region 3 with(fail)
           have s0:=af.cell 0;have s1:=af.cell 1;have s2:=af.cell 2;have s3:=af.cell 3;have s4:=af.cell 4;have s5:=af.cell 5;have s6:=af.cell 6;have s7:=af.cell 7;have s8:=af.cell 8;have s9:=af.cell 9;have cv:=af.cell 10;have cw:=af.cell 11;have cx:=af.cell 12;have cy:=af.cell 13;have cz:=af.cell 14;clear af br
           gi_wp2_with (refine hR.mono ?_;rintro e w9 ⟨rfl,cm,ch⟩;clear hy hR)
           gi_roundg (List.length r1+Gs M+(List.length r2+Gs N))
           case rel=>exact⟨pre++ [(k1,some x1,some x2)],_,_,Vx,Vy,r1,M,r2,N,rfl,qz cm,bl,qz (bk.out.keep ch)⟩
           case measure=>simp only[List.length_cons];omega
    . by_cases c1:Er k1 (Cu n2)=true
      . have al:Op.bytesLess (k1).toList ((Cu n2)).toList=true:=c1;have o:D1 ((k1,x1)::(r1++B9 M)) (B9 (n2::r2))=(k1,some x1,none)::D1 (r1++B9 M) (B9 (n2::r2)):=Sv (by obtain⟨v,r,e⟩:=Vz (ns:=r2) (b.oky.gds n2 (by simp));exact Mn (by simpa using b.oky.asc) e c1);have I:=qz (Em _ X Vx k1 x1 r1 M w4 b.x G (fun e=>by have:=(b.x.lt.2 X e).1;omega));clear G Q H O E
        gi_wp2_with (fail)
        refine⟨trivial, ?_⟩
        gi_at_call 215
        refine(callsIn_wide.2 I.out).mono ?_;rintro e w5 ⟨c,F,k',b',n',t',la,ln,lc,oa,on,oc,rfl,Z⟩;obtain⟨d,a⟩:=b.step (V':=Vx) ⟨c.os,c.tape,c.output,c.size,fun k a1 a2=>c.block k a1 fun h=>a2 (.inl h)⟩ (F.keep (fun i _ hi=> .inl hi) (Nat.le_refl _) fun _ _ _=>rfl) b.okx.tail (.inl rfl);have m:=qz (w _ _ _ _ _ _ _ u a.1 a.2.1 a.2.2);have aa:=qz (N8 k1 k' b' n' t' la ln lc oa on oc w5);obtain⟨Hv,j,ac⟩:=hid3 Z d a;clear c F d a Z u I u0 u1 u2 u3 v0 v1 v2 v3
        gi_wp2_with (fail)
        refine⟨trivial, ?_⟩
        gi_at_call 214
        refine(callsIn_wide.2 aa.out).mono ?_;rintro e w6 ⟨rfl,R⟩;have f:=j.out.below R;have ad:=w _ _ _ _ _ _ _ m.out (KB.of_below R) (fun _ _=>⟨Iff.rfl,Iff.rfl⟩) f.kb;have L:xs=pre++(k1,some x1,none)::D1 (r1++B9 M) (([]:List Cq)++B9 (n2::r2)):=by
         rw[V.out];simp only[List.cons_append,List.nil_append];rw[o]
        have Z:=Hv.out;have a:=ac.out;have ai:=hY pre (k1,some x1,none) (D1 (r1++B9 M) (([]:List Cq)++B9 (n2::r2))) ([.int .i64 k',.bool b',.int .i64 n',.string t',.slice la ln lc,.slice oa on oc],Qi) _ _ w6 L ad ⟨Gl.step Z a b.kb R,rfl⟩ f.tk f.kb;have ah:Hid (xs=(pre++ [(k1,some x1,none)])++D1 (r1++B9 M) (([]:List Cq)++B9 (n2::r2))):=by
         show _=_;rw[L];simp
        have ab:=qz f;obtain⟨fn,tmps,assign,body,hy,hR⟩:=ai;simp only[Ng,Qi,Option.isSome_some,Option.isSome_none,List.cons_append,List.nil_append]at hy;clear f ad L Z a Hv ac j m w b aa o
        gi_wp2_with (refine hR.mono ?_;rintro e w7 ⟨rfl,ag,ae⟩;clear hy hR)
        gi_roundg (List.length r1+Gs M+(List.length ([]:List Cq)+Gs (n2::r2)))
        case rel=>exact⟨pre++ [(k1,some x1,none)],_,_,Vx,Vy,r1,M, [],n2::r2,rfl,qz ag,ah,qz (ab.out.keep ae)⟩
        case measure=>simp only[List.length_nil,List.length_cons];omega
      . have al:Op.bytesLess (k1).toList ((Cu n2)).toList=false:=Bool.eq_false_iff.2 c1;by_cases c2:Er (Ez n2) k1=true
        . have ao:Op.bytesLess ((Ez n2)).toList (k1).toList=true:=c2;have I:=qz (C7 _ Y Vy n2 r2 w4 b.y b.oky H O E);clear E G Q H O
          gi_wp2_with (fail)
          refine⟨trivial, ?_⟩
          gi_at_call 213
          refine(callsIn_wide.2 I.out).mono ?_;rintro e w5 ⟨rfl,c,V',p,t,F,C,z,D,hV⟩;obtain⟨d,a⟩:=b.swap.step c F C hV;have m:Hid (J pre _ _ w5):=qz (w _ _ _ _ _ _ _ u a.1 a.2.1 a.2.2);have j:=qz d.swap;have S:Hid (xs=pre++D1 (((k1,x1)::r1)++B9 (M)) (p++B9 t)):=by
           show _=_;rw[V.out,z];simp only[List.nil_append]
          have U:=qz D;clear c F C a d z D hV u b I u0 u1 u2 u3 v0 v1 v2 v3
          gi_wp2_with (fail)
          gi_roundg (List.length ((k1,x1)::r1)+Gs (M)+(List.length p+Gs t))
          case rel=>exact⟨pre,_,_,Vx,V',(k1,x1)::r1,M,p,t,rfl,m,S,j⟩
          case measure=>have:=U.out;simp only[List.length_nil,List.length_cons]at this ⊢;omega
        . have ao:Op.bytesLess ((Ez n2)).toList (k1).toList=false:=Bool.eq_false_iff.2 c2;have ct: ¬(-1:Int)>(Tf n2:Int):=by omega
          have cp:(Tf n2:Int)>(-1:Int):=by omega
          have I:=qz (C7 _ Y Vy n2 r2 w4 b.y b.oky H O E);clear E G Q H O
          gi_wp2_with (fail)
          refine⟨trivial, ?_⟩
          gi_at_call 213
          refine(callsIn_wide.2 I.out).mono ?_;rintro e w5 ⟨rfl,c,V',p,t,F,C,z,D,hV⟩;obtain⟨d,a⟩:=b.swap.step c F C hV;have m:Hid (J pre _ _ w5):=qz (w _ _ _ _ _ _ _ u a.1 a.2.1 a.2.2);have j:=qz d.swap;have S:Hid (xs=pre++D1 (((k1,x1)::r1)++B9 (M)) (p++B9 t)):=by
           show _=_;rw[V.out,z];simp only[List.nil_append]
          have U:=qz D;clear c F C a d z D hV u b I u0 u1 u2 u3 v0 v1 v2 v3
          gi_wp2_with (fail)
          gi_roundg (List.length ((k1,x1)::r1)+Gs (M)+(List.length p+Gs t))
          case rel=>exact⟨pre,_,_,Vx,V',(k1,x1)::r1,M,p,t,rfl,m,S,j⟩
          case measure=>have:=U.out;simp only[List.length_nil,List.length_cons]at this ⊢;omega
    . have o:D1 ((k1,x1)::(r1++B9 M)) (B9 ([]:List Nd))=(k1,some x1,none)::D1 (r1++B9 M) (B9 ([]:List Nd)):=Sv (by simp[B9]);have I:=qz (Em _ X Vx k1 x1 r1 M w4 b.x G (fun e=>by have:=(b.x.lt.2 X e).1;omega));clear G Q H O E
      gi_wp2_with (fail)
      refine⟨trivial, ?_⟩
      gi_at_call 215
      refine(callsIn_wide.2 I.out).mono ?_;rintro e w5 ⟨c,F,k',b',n',t',la,ln,lc,oa,on,oc,rfl,Z⟩;obtain⟨d,a⟩:=b.step (V':=Vx) ⟨c.os,c.tape,c.output,c.size,fun k a1 a2=>c.block k a1 fun h=>a2 (.inl h)⟩ (F.keep (fun i _ hi=> .inl hi) (Nat.le_refl _) fun _ _ _=>rfl) b.okx.tail (.inl rfl);have m:=qz (w _ _ _ _ _ _ _ u a.1 a.2.1 a.2.2);have aa:=qz (N8 k1 k' b' n' t' la ln lc oa on oc w5);obtain⟨Hv,j,ac⟩:=hid3 Z d a;clear c F d a Z u I u0 u1 u2 u3 v0 v1 v2 v3
      gi_wp2_with (fail)
      refine⟨trivial, ?_⟩
      gi_at_call 214
      refine(callsIn_wide.2 aa.out).mono ?_;rintro e w6 ⟨rfl,R⟩;have f:=j.out.below R;have ad:=w _ _ _ _ _ _ _ m.out (KB.of_below R) (fun _ _=>⟨Iff.rfl,Iff.rfl⟩) f.kb;have L:xs=pre++(k1,some x1,none)::D1 (r1++B9 M) (([]:List Cq)++B9 ([]:List Nd)):=by
       rw[V.out];simp only[List.cons_append,List.nil_append];rw[o]
      have Z:=Hv.out;have a:=ac.out;have ai:=hY pre (k1,some x1,none) (D1 (r1++B9 M) (([]:List Cq)++B9 ([]:List Nd))) ([.int .i64 k',.bool b',.int .i64 n',.string t',.slice la ln lc,.slice oa on oc],Qi) _ _ w6 L ad ⟨Gl.step Z a b.kb R,rfl⟩ f.tk f.kb;have ah:Hid (xs=(pre++ [(k1,some x1,none)])++D1 (r1++B9 M) (([]:List Cq)++B9 ([]:List Nd))):=by
       show _=_;rw[L];simp
      have ab:=qz f;obtain⟨fn,tmps,assign,body,hy,hR⟩:=ai;simp only[Ng,Qi,Option.isSome_some,Option.isSome_none,List.cons_append,List.nil_append]at hy;clear f ad L Z a Hv ac j m w b aa o
      gi_wp2_with (refine hR.mono ?_;rintro e w7 ⟨rfl,ag,ae⟩;clear hy hR)
      gi_roundg (List.length r1+Gs M+(List.length ([]:List Cq)+Gs ([]:List Nd)))
      case rel=>exact⟨pre++ [(k1,some x1,none)],_,_,Vx,Vy,r1,M, [], [],rfl,qz ag,ah,qz (ab.out.keep ae)⟩
      case measure=>simp only[List.length_nil,List.length_cons];omega
  . rcases a4 with⟨k2,x2,r2,rfl,rfl,rfl,rfl,rfl,rfl⟩|⟨n2,r2,q2,rfl,rfl,rfl,hn2,rfl,rfl,rfl,rfl⟩|⟨rfl,rfl,rfl,rfl,rfl,rfl,rfl⟩
    . by_cases c1:Er (Ez n1) k2=true
      . have al:Op.bytesLess ((Ez n1)).toList (k2).toList=true:=c1;have I:=qz (C7 _ X Vx n1 r1 w4 b.x b.okx G Q E);clear E G Q H O
        gi_wp2_with (fail)
        refine⟨trivial, ?_⟩
        gi_at_call 213
        refine(callsIn_wide.2 I.out).mono ?_;rintro e w5 ⟨rfl,c,V',p,t,F,C,z,D,hV⟩;obtain⟨d,a⟩:=b.step c F C hV;have m:Hid (J pre _ _ w5):=qz (w _ _ _ _ _ _ _ u a.1 a.2.1 a.2.2);have j:=qz d;have S:Hid (xs=pre++D1 (p++B9 t) (((k2,x2)::r2)++B9 (N))):=by
         show _=_;rw[V.out,z];simp only[List.nil_append]
        have U:=qz D;clear c F C a d z D hV u b I u0 u1 u2 u3 v0 v1 v2 v3
        gi_wp2_with (fail)
        gi_roundg (List.length p+Gs t+(List.length ((k2,x2)::r2)+Gs (N)))
        case rel=>exact⟨pre,_,_,V',Vy,p,t,(k2,x2)::r2,N,rfl,m,S,j⟩
        case measure=>have:=U.out;simp only[List.length_nil,List.length_cons]at this ⊢;omega
      . have al:Op.bytesLess ((Ez n1)).toList (k2).toList=false:=Bool.eq_false_iff.2 c1;by_cases c2:Er k2 (Cu n1)=true
        . have ao:Op.bytesLess (k2).toList ((Cu n1)).toList=true:=c2;have o:D1 (B9 (n1::r1)) ((k2,x2)::(r2++B9 N))=(k2,none,some x2)::D1 (B9 (n1::r1)) (r2++B9 N):=Su (by obtain⟨v,r,e⟩:=Vz (ns:=r1) (b.okx.gds n1 (by simp));exact Mn (by simpa using b.okx.asc) e c2);have I:=qz (Em _ Y Vy k2 x2 r2 N w4 b.y H (fun e=>by have:=(b.y.lt.2 Y e).1;omega));clear G Q H O E
          gi_wp2_with (fail)
          refine⟨trivial, ?_⟩
          gi_at_call 215
          refine(callsIn_wide.2 I.out).mono ?_;rintro e w5 ⟨c,F,k',b',n',t',la,ln,lc,oa,on,oc,rfl,Z⟩;obtain⟨d,a⟩:=b.swap.step (V':=Vy) ⟨c.os,c.tape,c.output,c.size,fun k a1 a2=>c.block k a1 fun h=>a2 (.inl h)⟩ (F.keep (fun i _ hi=> .inl hi) (Nat.le_refl _) fun _ _ _=>rfl) b.oky.tail (.inl rfl);have m:=qz (w _ _ _ _ _ _ _ u a.1 a.2.1 a.2.2);have aa:=qz (Nz k2 k' b' n' t' la ln lc oa on oc w5);obtain⟨Hv,j,ac⟩:=hid3 Z d a;clear c F d a Z u I u0 u1 u2 u3 v0 v1 v2 v3
          gi_wp2_with (fail)
          refine⟨trivial, ?_⟩
          gi_at_call 216
          refine(callsIn_wide.2 aa.out).mono ?_;rintro e w6 ⟨rfl,R⟩;have f:=j.out.below R;have ad:=w _ _ _ _ _ _ _ m.out (KB.of_below R) (fun _ _=>⟨Iff.rfl,Iff.rfl⟩) f.kb;have L:xs=pre++(k2,none,some x2)::D1 (([]:List Cq)++B9 (n1::r1)) (r2++B9 N):=by
           rw[V.out];simp only[List.cons_append,List.nil_append];rw[o]
          have Z:=Hv.out;have a:=ac.out;have ai:=hY pre (k2,none,some x2) (D1 (([]:List Cq)++B9 (n1::r1)) (r2++B9 N)) (Qi, [.int .i64 k',.bool b',.int .i64 n',.string t',.slice la ln lc,.slice oa on oc]) _ _ w6 L ad ⟨rfl,Gl.step Z a b.swap.kb R⟩ f.tk f.kb;have ah:Hid (xs=(pre++ [(k2,none,some x2)])++D1 (([]:List Cq)++B9 (n1::r1)) (r2++B9 N)):=by
           show _=_;rw[L];simp
          have ab:=qz f;obtain⟨fn,tmps,assign,body,hy,hR⟩:=ai;simp only[Ng,Qi,Option.isSome_some,Option.isSome_none,List.cons_append,List.nil_append]at hy;clear f ad L Z a Hv ac j m w b aa o
          gi_wp2_with (refine hR.mono ?_;rintro e w7 ⟨rfl,ag,ae⟩;clear hy hR)
          gi_roundg (List.length ([]:List Cq)+Gs (n1::r1)+(List.length r2+Gs N))
          case rel=>exact⟨pre++ [(k2,none,some x2)],_,_,Vx,Vy, [],n1::r1,r2,N,rfl,qz ag,ah,qz (ab.out.swap.keep ae)⟩
          case measure=>simp only[List.length_nil,List.length_cons];omega
        . have ao:Op.bytesLess (k2).toList ((Cu n1)).toList=false:=Bool.eq_false_iff.2 c2;have cp:(Tf n1:Int)>(-1:Int):=by omega
          have I:=qz (C7 _ X Vx n1 r1 w4 b.x b.okx G Q E);clear E G Q H O
          gi_wp2_with (fail)
          refine⟨trivial, ?_⟩
          gi_at_call 213
          refine(callsIn_wide.2 I.out).mono ?_;rintro e w5 ⟨rfl,c,V',p,t,F,C,z,D,hV⟩;obtain⟨d,a⟩:=b.step c F C hV;have m:Hid (J pre _ _ w5):=qz (w _ _ _ _ _ _ _ u a.1 a.2.1 a.2.2);have j:=qz d;have S:Hid (xs=pre++D1 (p++B9 t) (((k2,x2)::r2)++B9 (N))):=by
           show _=_;rw[V.out,z];simp only[List.nil_append]
          have U:=qz D;clear c F C a d z D hV u b I u0 u1 u2 u3 v0 v1 v2 v3
          gi_wp2_with (fail)
          gi_roundg (List.length p+Gs t+(List.length ((k2,x2)::r2)+Gs (N)))
          case rel=>exact⟨pre,_,_,V',Vy,p,t,(k2,x2)::r2,N,rfl,m,S,j⟩
          case measure=>have:=U.out;simp only[List.length_nil,List.length_cons]at this ⊢;omega
    . by_cases hq:q1=q2
      . subst hq;obtain rfl:=Ct.inj n1 q1 n2 hn1.now hn2.now;have cs:=Ajr w4 q1;have I:=qz (Rm _ X Vx n1 r1 w4 b.x b.okx G);clear G Q E
        gi_wp2_with (fail)
        refine⟨trivial, ?_⟩
        gi_at_call 212
        refine(callsIn_wide.2 I.out).mono ?_;rintro e w5 ⟨rfl,c,V',cn,F⟩;obtain⟨d,a⟩:=b.step (V':=V') ⟨c.os,c.tape,c.output,c.size,fun k a1 a2=>c.block k a1 fun h=>a2 (.inl h)⟩ (F.keep (fun i _ hi=> .inl hi) (Nat.le_refl _) fun _ _ _=>rfl) b.okx.skip (.inl cn);have m:=qz (w _ _ _ _ _ _ _ u a.1 a.2.1 a.2.2);have aw:=qz (Rm _ Y Vy n1 r2 w5 d.y d.oky (fun h=>h.2 d.ty.1));have j:=qz d;clear c F d a u b I u0 u1 u2 u3 v0 v1 v2 v3 H O
        gi_wp2_with (fail)
        refine⟨trivial, ?_⟩
        gi_at_call 212
        refine(callsIn_wide.2 aw.out).mono ?_;rintro e w6 ⟨rfl,c,V2,co,F⟩;obtain⟨f,a⟩:=j.out.swap.step (V':=V2) ⟨c.os,c.tape,c.output,c.size,fun k a1 a2=>c.block k a1 fun h=>a2 (.inl h)⟩ (F.keep (fun i _ hi=> .inl hi) (Nat.le_refl _) fun _ _ _=>rfl) j.out.oky.skip (.inl co);have av:=qz (w _ _ _ _ _ _ _ m.out a.1 a.2.1 a.2.2);have ah:Hid (xs=pre++D1 ([]++B9 r1) ([]++B9 r2)):=by
         show _=_;rw[V.out];simp only[List.nil_append,B9];rw[Zg]
        have ab:=qz f.swap;clear c F f a j m aw
        gi_wp2_with (fail)
        gi_roundg (List.length ([]:List Cq)+Gs r1+(List.length ([]:List Cq)+Gs r2))
        case rel=>exact⟨pre,_,_,V',V2, [],r1, [],r2,rfl,av,ah,ab⟩
        case measure=>
         have:0<wtN n1:=by cases n1<;>(simp only[wtN];omega)
         simp only[List.length_nil,Gs];omega
      . have cs:(binOp .eql 98 (.pointer (some ⟨q1,0,none⟩)) (.pointer (some ⟨q2,0,none⟩))).run Tryz.prog w4=.ok (.bool false) w4:=by
         obtain⟨_,cq⟩:=hn1.blk;obtain⟨_,cr⟩:=hn2.blk;exact Agm cq cr hq
        by_cases c1:Er (Ez n1) (Cu n2)=true
        . have al:Op.bytesLess ((Ez n1)).toList ((Cu n2)).toList=true:=c1;have I:=qz (C7 _ X Vx n1 r1 w4 b.x b.okx G Q E);clear E G Q H O
          gi_wp2_with (fail)
          refine⟨trivial, ?_⟩
          gi_at_call 213
          refine(callsIn_wide.2 I.out).mono ?_;rintro e w5 ⟨rfl,c,V',p,t,F,C,z,D,hV⟩;obtain⟨d,a⟩:=b.step c F C hV;have m:Hid (J pre _ _ w5):=qz (w _ _ _ _ _ _ _ u a.1 a.2.1 a.2.2);have j:=qz d;have S:Hid (xs=pre++D1 (p++B9 t) (([]:List Cq)++B9 (n2::r2))):=by
           show _=_;rw[V.out,z];simp only[List.nil_append]
          have U:=qz D;clear c F C a d z D hV u b I u0 u1 u2 u3 v0 v1 v2 v3
          gi_wp2_with (fail)
          gi_roundg (List.length p+Gs t+(List.length ([]:List Cq)+Gs (n2::r2)))
          case rel=>exact⟨pre,_,_,V',Vy,p,t, [],n2::r2,rfl,m,S,j⟩
          case measure=>have:=U.out;simp only[List.length_nil]at this ⊢;omega
        . have al:Op.bytesLess ((Ez n1)).toList ((Cu n2)).toList=false:=Bool.eq_false_iff.2 c1;by_cases c2:Er (Ez n2) (Cu n1)=true
          . have ao:Op.bytesLess ((Ez n2)).toList ((Cu n1)).toList=true:=c2;have I:=qz (C7 _ Y Vy n2 r2 w4 b.y b.oky H O E);clear E G Q H O
            gi_wp2_with (fail)
            refine⟨trivial, ?_⟩
            gi_at_call 213
            refine(callsIn_wide.2 I.out).mono ?_;rintro e w5 ⟨rfl,c,V',p,t,F,C,z,D,hV⟩;obtain⟨d,a⟩:=b.swap.step c F C hV;have m:Hid (J pre _ _ w5):=qz (w _ _ _ _ _ _ _ u a.1 a.2.1 a.2.2);have j:=qz d.swap;have S:Hid (xs=pre++D1 (([]:List Cq)++B9 (n1::r1)) (p++B9 t)):=by
             show _=_;rw[V.out,z];simp only[List.nil_append]
            have U:=qz D;clear c F C a d z D hV u b I u0 u1 u2 u3 v0 v1 v2 v3
            gi_wp2_with (fail)
            gi_roundg (List.length ([]:List Cq)+Gs (n1::r1)+(List.length p+Gs t))
            case rel=>exact⟨pre,_,_,Vx,V', [],n1::r1,p,t,rfl,m,S,j⟩
            case measure=>have:=U.out;simp only[List.length_nil]at this ⊢;omega
          . have ao:Op.bytesLess ((Ez n2)).toList ((Cu n1)).toList=false:=Bool.eq_false_iff.2 c2;by_cases hg:(Tf n1:Int)>(Tf n2:Int)
            . have hO:=C7 _ X Vx n1 r1 w4 b.x b.okx G Q E;have I:=qz hO;clear hO;clear E G Q H O
              gi_wp2_with (fail)
              refine⟨trivial, ?_⟩
              gi_at_call 213
              refine(callsIn_wide.2 I.out).mono ?_;rintro e w5 ⟨rfl,c,V',p,t,F,C,z,D,hV⟩;obtain⟨d,a⟩:=b.step c F C hV;have m:Hid (J pre _ _ w5):=qz (w _ _ _ _ _ _ _ u a.1 a.2.1 a.2.2);have j:=qz d;have S:Hid (xs=pre++D1 (p++B9 t) (([]:List Cq)++B9 (n2::r2))):=by
               show _=_;rw[V.out,z];simp only[List.nil_append]
              have U:=qz D;clear c F C a d z D hV u b I u0 u1 u2 u3 v0 v1 v2 v3
              gi_wp2_with (fail)
              gi_roundg (List.length p+Gs t+(List.length ([]:List Cq)+Gs (n2::r2)))
              case rel=>exact⟨pre,_,_,V',Vy,p,t, [],n2::r2,rfl,m,S,j⟩
              case measure=>have:=U.out;simp only[List.length_nil]at this ⊢;omega
            . by_cases cu:(Tf n2:Int)>(Tf n1:Int)
              . have hO:=C7 _ Y Vy n2 r2 w4 b.y b.oky H O E;have I:=qz hO;clear hO;clear E G Q H O
                gi_wp2_with (fail)
                refine⟨trivial, ?_⟩
                gi_at_call 213
                refine(callsIn_wide.2 I.out).mono ?_;rintro e w5 ⟨rfl,c,V',p,t,F,C,z,D,hV⟩;obtain⟨d,a⟩:=b.swap.step c F C hV;have m:Hid (J pre _ _ w5):=qz (w _ _ _ _ _ _ _ u a.1 a.2.1 a.2.2);have j:=qz d.swap;have S:Hid (xs=pre++D1 (([]:List Cq)++B9 (n1::r1)) (p++B9 t)):=by
                 show _=_;rw[V.out,z];simp only[List.nil_append]
                have U:=qz D;clear c F C a d z D hV u b I u0 u1 u2 u3 v0 v1 v2 v3
                gi_wp2_with (fail)
                gi_roundg (List.length ([]:List Cq)+Gs (n1::r1)+(List.length p+Gs t))
                case rel=>exact⟨pre,_,_,Vx,V', [],n1::r1,p,t,rfl,m,S,j⟩
                case measure=>have:=U.out;simp only[List.length_nil]at this ⊢;omega
              . have hO:=C7 _ Y Vy n2 r2 w4 b.y b.oky H O E;have I:=qz hO;clear hO;clear E G Q H O
                gi_wp2_with (fail)
                refine⟨trivial, ?_⟩
                gi_at_call 213
                refine(callsIn_wide.2 I.out).mono ?_;rintro e w5 ⟨rfl,c,V',p,t,F,C,z,D,hV⟩;obtain⟨d,a⟩:=b.swap.step c F C hV;have m:Hid (J pre _ _ w5):=qz (w _ _ _ _ _ _ _ u a.1 a.2.1 a.2.2);have j:=qz d.swap;have S:Hid (xs=pre++D1 (([]:List Cq)++B9 (n1::r1)) (p++B9 t)):=by
                 show _=_;rw[V.out,z];simp only[List.nil_append]
                have U:=qz D;clear c F C a d z D hV u b I u0 u1 u2 u3 v0 v1 v2 v3
                gi_wp2_with (fail)
                gi_roundg (List.length ([]:List Cq)+Gs (n1::r1)+(List.length p+Gs t))
                case rel=>exact⟨pre,_,_,Vx,V', [],n1::r1,p,t,rfl,m,S,j⟩
                case measure=>have:=U.out;simp only[List.length_nil]at this ⊢;omega
    . have hO:=C7 _ X Vx n1 r1 w4 b.x b.okx G Q E;have I:=qz hO;clear hO;clear E G Q H O
      gi_wp2_with (fail)
      refine⟨trivial, ?_⟩
      gi_at_call 213
      refine(callsIn_wide.2 I.out).mono ?_;rintro e w5 ⟨rfl,c,V',p,t,F,C,z,D,hV⟩;obtain⟨d,a⟩:=b.step c F C hV;have m:Hid (J pre _ _ w5):=qz (w _ _ _ _ _ _ _ u a.1 a.2.1 a.2.2);have j:=qz d;have S:Hid (xs=pre++D1 (p++B9 t) (([]:List Cq)++B9 ([]:List Nd))):=by
       show _=_;rw[V.out,z];simp only[List.nil_append]
      have U:=qz D;clear c F C a d z D hV u b I u0 u1 u2 u3 v0 v1 v2 v3
      gi_wp2_with (fail)
      gi_roundg (List.length p+Gs t+(List.length ([]:List Cq)+Gs ([]:List Nd)))
      case rel=>exact⟨pre,_,_,V',Vy,p,t, [], [],rfl,m,S,j⟩
      case measure=>have:=U.out;simp only[List.length_nil]at this ⊢;omega
  . rcases a4 with⟨k2,x2,r2,rfl,rfl,rfl,rfl,rfl,rfl⟩|⟨n2,r2,q2,rfl,rfl,rfl,hn2,rfl,rfl,rfl,rfl⟩|⟨rfl,rfl,rfl,rfl,rfl,rfl,rfl⟩
    . have o:D1 (B9 ([]:List Nd)) ((k2,x2)::(r2++B9 N))=(k2,none,some x2)::D1 (B9 ([]:List Nd)) (r2++B9 N):=Su (by simp[B9]);have I:=qz (Em _ Y Vy k2 x2 r2 N w4 b.y H (fun e=>by have:=(b.y.lt.2 Y e).1;omega));clear G Q H O E
      gi_wp2_with (fail)
      refine⟨trivial, ?_⟩
      gi_at_call 215
      refine(callsIn_wide.2 I.out).mono ?_;rintro e w5 ⟨c,F,k',b',n',t',la,ln,lc,oa,on,oc,rfl,Z⟩;obtain⟨d,a⟩:=b.swap.step (V':=Vy) ⟨c.os,c.tape,c.output,c.size,fun k a1 a2=>c.block k a1 fun h=>a2 (.inl h)⟩ (F.keep (fun i _ hi=> .inl hi) (Nat.le_refl _) fun _ _ _=>rfl) b.oky.tail (.inl rfl);have m:=qz (w _ _ _ _ _ _ _ u a.1 a.2.1 a.2.2);have aa:=qz (Nz k2 k' b' n' t' la ln lc oa on oc w5);obtain⟨Hv,j,ac⟩:=hid3 Z d a;clear c F d a Z u I u0 u1 u2 u3 v0 v1 v2 v3
      gi_wp2_with (fail)
      refine⟨trivial, ?_⟩
      gi_at_call 216
      refine(callsIn_wide.2 aa.out).mono ?_;rintro e w6 ⟨rfl,R⟩;have f:=j.out.below R;have ad:=w _ _ _ _ _ _ _ m.out (KB.of_below R) (fun _ _=>⟨Iff.rfl,Iff.rfl⟩) f.kb;have L:xs=pre++(k2,none,some x2)::D1 (([]:List Cq)++B9 ([]:List Nd)) (r2++B9 N):=by
       rw[V.out];simp only[List.cons_append,List.nil_append];rw[o]
      have Z:=Hv.out;have a:=ac.out;have ai:=hY pre (k2,none,some x2) (D1 (([]:List Cq)++B9 ([]:List Nd)) (r2++B9 N)) (Qi, [.int .i64 k',.bool b',.int .i64 n',.string t',.slice la ln lc,.slice oa on oc]) _ _ w6 L ad ⟨rfl,Gl.step Z a b.swap.kb R⟩ f.tk f.kb;have ah:Hid (xs=(pre++ [(k2,none,some x2)])++D1 (([]:List Cq)++B9 ([]:List Nd)) (r2++B9 N)):=by
       show _=_;rw[L];simp
      have ab:=qz f;obtain⟨fn,tmps,assign,body,hy,hR⟩:=ai;simp only[Ng,Qi,Option.isSome_some,Option.isSome_none,List.cons_append,List.nil_append]at hy;clear f ad L Z a Hv ac j m w b aa o
      gi_wp2_with (refine hR.mono ?_;rintro e w7 ⟨rfl,ag,ae⟩;clear hy hR)
      gi_roundg (List.length ([]:List Cq)+Gs ([]:List Nd)+(List.length r2+Gs N))
      case rel=>exact⟨pre++ [(k2,none,some x2)],_,_,Vx,Vy, [], [],r2,N,rfl,qz ag,ah,qz (ab.out.swap.keep ae)⟩
      case measure=>simp only[List.length_nil,List.length_cons];omega
    . have hO:=C7 _ Y Vy n2 r2 w4 b.y b.oky H O E;have I:=qz hO;clear hO;clear E G Q H O
      gi_wp2_with (fail)
      refine⟨trivial, ?_⟩
      gi_at_call 213
      refine(callsIn_wide.2 I.out).mono ?_;rintro e w5 ⟨rfl,c,V',p,t,F,C,z,D,hV⟩;obtain⟨d,a⟩:=b.swap.step c F C hV;have m:Hid (J pre _ _ w5):=qz (w _ _ _ _ _ _ _ u a.1 a.2.1 a.2.2);have j:=qz d.swap;have S:Hid (xs=pre++D1 (([]:List Cq)++B9 ([]:List Nd)) (p++B9 t)):=by
       show _=_;rw[V.out,z];simp only[List.nil_append]
      have U:=qz D;clear c F C a d z D hV u b I u0 u1 u2 u3 v0 v1 v2 v3
      gi_wp2_with (fail)
      gi_roundg (List.length ([]:List Cq)+Gs ([]:List Nd)+(List.length p+Gs t))
      case rel=>exact⟨pre,_,_,Vx,V', [], [],p,t,rfl,m,S,j⟩
      case measure=>have:=U.out;simp only[List.length_nil]at this ⊢;omega
    . have HP:Hid (PO (.returned (.tuple #[])) w4):=by
       show PO _ _;rw[<-cl.out];refine⟨rfl,T,K, ?_⟩;have e:=V.out;have e0:pre=xs:=by rw[e];simp[B9,D1]
       exact e0▸u
      clear G Q H O E b u
      gi_wp2
      exact bodyPost_end (Lk rfl) rfl HP.out
end Go.Proofs.YtjgfchcldhmjcaaGreatDoor
