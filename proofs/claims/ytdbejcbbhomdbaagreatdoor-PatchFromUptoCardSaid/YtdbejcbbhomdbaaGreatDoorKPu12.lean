/- Parts: utf.Quote: the walk. Condition: a text shorter than 10^9. -/
import Derived.Test.YtdbejcbbhomdbaaGreatDoorKPu8
import Derived.Test.YtdbejcbbhomdbaaGreatDoorKPu9
set_option maxHeartbeats 20000000
set_option maxRecDepth 100000
namespace Go.Proofs.YtdbejcbbhomdbaaGreatDoor
open Go Go.RowKit
mutual
def Bl (S:Nat->Prop) (w:World):Nd->Nat->Prop
 | .leaf es,b=>S b/\b<w.heap.size/\ ∃a c,Ag S w (.row 7 (dO es)) [.slice a es.length c]/\
    Ao w b Nn #[.slice a es.length c,.slice none 0 0,.int .i64 0,.int .i64 es.length,.string (Al (.leaf es)),.string (Bn (.leaf es)),.bool false]
 | .inner ks,b=>S b/\b<w.heap.size/\ ∃bs a c,Ag S w (.row 1 (Av bs)) [.slice a ks.length c]/\
    Ao w b Nn #[.slice none 0 0,.slice a ks.length c,.int .i64 (Iy (.inner ks)),.int .i64 (As ks).length,.string (Al (.inner ks)),.string (Bn (.inner ks)),.bool false]/\Am S w ks bs
def Am (S:Nat->Prop) (w:World):List Nd->List Nat->Prop
 | [],bs=>bs= []
 |k::r,bs=> ∃b t,bs=b::t/\Bl S w k b/\Am S w r t
end
theorem Am.imp' {S T:Nat->Prop} {w w':World}: ∀{ks:List Nd},(∀k ∈ ks,∀b,Bl S w k b->Bl T w' k b)-> ∀{bs},Am S w ks bs->Am T w' ks bs
 | [],_,_,h=>by
   simp only[Am]at h ⊢;exact h
 |k::r,ih,bs,h=>by
  simp only[Am]at h ⊢;obtain⟨b,t,e,h1,h2⟩:=h;exact⟨b,t,e,ih k (by simp) b h1,Am.imp' (fun x hx=>ih x (by simp[hx])) h2⟩
theorem Bl.imp {S T:Nat->Prop} {w w':World} (hS: ∀i,i<w'.heap.size->S i->T i) (hs:w.heap.size<=w'.heap.size) (hk: ∀i,S i->i<w.heap.size->w'.heap[i]? =w.heap[i]?): ∀{n:Nd} {b:Nat},Bl S w n b->Bl T w' n b:=by
 have hc: ∀p:Addr,S p.block->p.block<w.heap.size->w'.cell? p=w.cell? p:=fun p p1 p2=>World.cell?_of_block (hk p.block p1 p2);intro n;refine Nd.ind (p:=fun n=> ∀{b:Nat},Bl S w n b->Bl T w' n b) ?_ ?_ n
 . intro es b h;simp only[Bl]at h ⊢;obtain⟨h0,hl,a,c,h1,h2⟩:=h;exact⟨hS b (by omega) h0,by omega,a,c,(h1.later hs hc).mono hS,(hk b h0 hl).trans h2⟩
 . intro ks ih b h;simp only[Bl]at h ⊢;obtain⟨h0,hl,bs,a,c,h1,h2,h3⟩:=h;exact⟨hS b (by omega) h0,by omega,bs,a,c,(h1.later hs hc).mono hS,(hk b h0 hl).trans h2,Am.imp' (fun k hk' _ hb=>ih k hk' hb) h3⟩
theorem Ar.of_in {S:Nat->Prop} {w:World}: ∀{ks:List Nd},(∀k ∈ ks,∀b,Bl S w k b->Bi w w.heap.size k b)-> ∀{bs},Am S w ks bs->Ar w w.heap.size ks bs
 | [],_,_,h=>by
   simp only[Am,Ar]at h ⊢;exact h
 |k::r,ih,bs,h=>by
  simp only[Am,Ar]at h ⊢;obtain⟨b,t,e,h1,h2⟩:=h;exact⟨b,t,e,ih k (by simp) b h1,Ar.of_in (fun x hx=>ih x (by simp[hx])) h2⟩
theorem Bl.now {S:Nat->Prop} {w:World}: ∀{n:Nd} {b:Nat},Bl S w n b->Bi w w.heap.size n b:=by
 intro n;refine Nd.ind (p:=fun n=> ∀{b:Nat},Bl S w n b->Bi w w.heap.size n b) ?_ ?_ n
 . intro es b h;simp only[Bl]at h;simp only[Bi];obtain⟨_,hl,a,c,h1,h2⟩:=h;exact⟨hl,a,c,h1.now,h2⟩
 . intro ks ih b h;simp only[Bl]at h;simp only[Bi];obtain⟨_,hl,bs,a,c,h1,h2,h3⟩:=h;exact⟨hl,bs,a,c,h1.now,h2,Ar.of_in (fun k hk _ hb=>ih k hk hb) h3⟩
theorem Am.now {S:Nat->Prop} {w:World} {ks:List Nd} {bs:List Nat} (h:Am S w ks bs):Ar w w.heap.size ks bs:=Ar.of_in (fun _ _ _ hk=>hk.now) h
theorem Am.of_at {B:Nat} {w:World}: ∀{ks:List Nd},(∀k ∈ ks,∀b,Bi w B k b->Bl (fun i=>i<B) w k b)-> ∀{bs},Ar w B ks bs->Am (fun i=>i<B) w ks bs
 | [],_,_,h=>by
   simp only[Am,Ar]at h ⊢;exact h
 |k::r,ih,bs,h=>by
  simp only[Am,Ar]at h ⊢;obtain⟨b,t,e,h1,h2⟩:=h;exact⟨b,t,e,ih k (by simp) b h1,Am.of_at (fun x hx=>ih x (by simp[hx])) h2⟩
theorem Bl.of_old {B:Nat} {w:World} {n:Nd} {b:Nat} (h:Bi w B n b) (hB:B<=w.heap.size):Bl (fun i=>i<B) w n b:=by
 revert b
 refine Nd.ind (p:=fun n=> ∀{b:Nat},Bi w B n b->Bl (fun i=>i<B) w n b) ?_ ?_ n
 . intro es b h;simp only[Bi]at h;simp only[Bl];obtain⟨hl,a,c,h1,h2⟩:=h;exact⟨hl,by omega,a,c,Ag.of_old h1 hB (Below.refl _ _),h2⟩
 . intro ks ih b h;simp only[Bi]at h;simp only[Bl];obtain⟨hl,bs,a,c,h1,h2,h3⟩:=h;exact⟨hl,by omega,bs,a,c,Ag.of_old h1 hB (Below.refl _ _),h2,Am.of_at (fun k hk _ hb=>ih k hk hb) h3⟩
section
variable {S T:Nat->Prop} {w w':World} {n:Nd} {b:Nat}
theorem Am.imp {ks:List Nd} {bs:List Nat} (hS: ∀i,i<w'.heap.size->S i->T i) (hs:w.heap.size<=w'.heap.size) (hk: ∀i,S i->i<w.heap.size->w'.heap[i]? =w.heap[i]?) (h:Am S w ks bs):Am T w' ks bs:=Am.imp' (fun _ _ _ h=>h.imp hS hs hk) h
theorem Am.of_old {B:Nat} {ks:List Nd} {bs:List Nat} (h:Ar w B ks bs) (hB:B<=w.heap.size):Am (fun i=>i<B) w ks bs:=Am.of_at (fun _ _ _ hk=>Bl.of_old hk hB) h
theorem Bl.mono (h:Bl S w n b) (hST: ∀i,i<w.heap.size->S i->T i):Bl T w n b:=h.imp hST (Nat.le_refl _) fun _ _ _=>rfl
theorem Am.mono {ks:List Nd} {bs:List Nat} (h:Am S w ks bs) (hST: ∀i,i<w.heap.size->S i->T i):Am T w ks bs:=h.imp hST (Nat.le_refl _) fun _ _ _=>rfl
theorem Bl.later (h:Bl S w n b) (hs:w.heap.size<=w'.heap.size) (hk: ∀i,S i->i<w.heap.size->w'.heap[i]? =w.heap[i]?):Bl S w' n b:=h.imp (fun _ _ h=>h) hs hk
theorem Am.later {ks:List Nd} {bs:List Nat} (h:Am S w ks bs) (hs:w.heap.size<=w'.heap.size) (hk: ∀i,S i->i<w.heap.size->w'.heap[i]? =w.heap[i]?):Am S w' ks bs:=h.imp (fun _ _ h=>h) hs hk
theorem Bl.below (h:Bl S w n b) (hb:Below w.heap.size w w'):Bl S w' n b:=h.later hb.size fun i _ hi=>hb.block i hi
theorem Am.below {ks:List Nd} {bs:List Nat} (h:Am S w ks bs) (hb:Below w.heap.size w w'):Am S w' ks bs:=h.later hb.size fun i _ hi=>hb.block i hi
theorem Am.at_: ∀{ks:List Nd} {bs:List Nat},Am S w ks bs-> ∀{i:Nat} {k:Nd},ks[i]? =some k-> ∃b,bs[i]? =some b/\Bl S w k b
 | [],bs,h,i,k,hi=>by simp at hi
 |x::r,bs,h,i,k,hi=>by
  simp only[Am]at h;obtain⟨b,t,rfl,h1,h2⟩:=h
  cases i with
  |zero=>
   simp only[List.getElem?_cons_zero,Option.some.injEq]at hi;subst hi;exact⟨b,rfl,h1⟩
  |succ i=>
   simp only[List.getElem?_cons_succ]at hi ⊢;exact Am.at_ h2 hi
theorem Am.app: ∀{ks ks':List Nd} {bs bs':List Nat},Am S w ks bs->Am S w ks' bs'->Am S w (ks++ks') (bs++bs')
 | [],ks',bs,bs',h,h'=>by
   simp only[Am]at h;subst h;exact h'
 |k::r,ks',bs,bs',h,h'=>by
  simp only[Am]at h;obtain⟨b,t,rfl,h1,h2⟩:=h;simp only[List.cons_append,Am];exact⟨b,t++bs',rfl,h1,Am.app h2 h'⟩
theorem Am.one (h:Bl S w n b):Am S w [n] [b]:=by
 simp only[Am];exact⟨b, [],rfl,h,rfl⟩
theorem Am.split: ∀{ks:List Nd} {bs:List Nat},Am S w ks bs-> ∀(i:Nat),Am S w (ks.take i) (bs.take i)/\Am S w (ks.drop i) (bs.drop i)
 | [],bs,h,i=>by
   simp only[Am]at h;subst h;simp[Am]
 |k::r,bs,h,0=>by
  simp only[List.take_zero,List.drop_zero];exact⟨by simp only[Am],h⟩
 |k::r,bs,h,i+1=>by
  simp only[Am]at h;obtain⟨b,t,rfl,h1,h2⟩:=h;obtain⟨a1,a2⟩:=Am.split h2 i;simp only[List.take_succ_cons,List.drop_succ_cons,Am];exact⟨⟨b,t.take i,rfl,h1,a1⟩,a2⟩
theorem Am.set: ∀{ks:List Nd} {bs:List Nat},Am S w ks bs-> ∀(i:Nat) {n:Nd} {b:Nat},Bl S w n b->Am S w (ks.set i n) (bs.set i b)
 | [],bs,h,i,n,b,_=>by
   simp only[Am]at h;subst h;simp[Am]
 |x::r,bs,h,0,n,b,hk=>by
  simp only[Am]at h;obtain⟨b',t,rfl,h1,h2⟩:=h;simp only[tk5,Am];exact⟨b,t,rfl,hk,h2⟩
 |x::r,bs,h,i+1,n,b,hk=>by
  simp only[Am]at h;obtain⟨b',t,rfl,h1,h2⟩:=h;simp only[tk6,Am];exact⟨b',t.set i b,rfl,h1,Am.set h2 i hk⟩
end
theorem Ai.cutL {w:World} {B s n c:Nat} {l:List D} {a:Option Addr} (h:Ai w B (.row s l) [.slice a n c]) {i:Nat} (hi:i<=l.length) (c':Nat):Ai w B (.row s (l.take i)) [.slice a i c']:=by
 obtain⟨a',c2,e,hs,ns,h1,h2⟩:=h;simp only[List.cons.injEq,Value.slice.injEq,and_true]at e;obtain⟨rfl,_,rfl⟩:=e;refine⟨a,c',by rw[List.length_take,Nat.min_eq_left hi],fun d hd=>hs d (List.mem_of_mem_take hd),ns.take (i*s),(h1.split i hs).1, ?_⟩;rcases h2 with h2|⟨g,off,ea,hg,hc⟩
 . exact .inl (by rw[h2];simp)
 . refine .inr ⟨g,off,ea,hg,fun j u hj=> ?_⟩;rw[List.getElem?_take]at hj;by_cases hlt:j<i*s
   . rw[if_pos hlt]at hj;exact hc j u hj
   . rw[if_neg hlt]at hj;cases hj
theorem Ai.cutR {w:World} {B s n c g off:Nat} {l:List D} (h:Ai w B (.row s l) [.slice (some ⟨g,off,none⟩) n c]) {i m:Nat} (hm:i+m=l.length) (c':Nat):Ai w B (.row s (l.drop i)) [.slice (some ⟨g,off+i*s,none⟩) m c']:=by
 obtain⟨a',c2,e,hs,ns,h1,h2⟩:=h;simp only[List.cons.injEq,Value.slice.injEq,and_true]at e;obtain⟨rfl,_,rfl⟩:=e;refine⟨_,c',by rw[List.length_drop,show l.length - i=m from by omega],fun d hd=>hs d (List.mem_of_mem_drop hd),ns.drop (i*s),(h1.split i hs).2, ?_⟩;rcases h2 with h2|⟨g',off',ea,hg,hc⟩
 . exact .inl (by rw[h2];simp)
 . cases ea
   refine .inr ⟨g,off+i*s,rfl,hg,fun j u hj=> ?_⟩;rw[List.getElem?_drop]at hj;rw[Nat.add_assoc];exact hc _ u hj
theorem Aq.split {S:Nat->Prop} {w:World} {l:List D} {ns:List Value} {s:Nat} (h:Aq S w l ns) (hs: ∀d ∈ l,d.cells=s) (i:Nat):Aq S w (l.take i) (ns.take (i*s))/\Aq S w (l.drop i) (ns.drop (i*s)):=
 ⟨fun w'' k1 k2=>((h w'' k1 k2).split i hs).1,fun w'' k1 k2=>((h w'' k1 k2).split i hs).2⟩
theorem Aq.grow {S0:Nat->Prop} {w w':World} {V V':Value} {l:List D} {ns:List Value} (h:Aq (fun i=>S0 i/\V.ownBlock≠some i) w l ns) (hg:w.grownBy w' V.ownBlock) (ha:V'.ownBlock=V.ownBlock\/V'.ownBlock=some w.heap.size):Aq (fun i=>S0 i/\V'.ownBlock≠some i) w' l ns:=fun w'' k1 k2=>by
 refine Ah.more (h w'' (Nat.le_trans hg.size k1) fun p p1 p2=> ?_) hg.size;have hn:V'.ownBlock≠some p.block:=by
  rcases ha with e|e
  . rw[e];exact p1.2
  . rw[e];intro e4;have:=Option.some.inj e4;omega
 rw[k2 p ⟨p1.1,hn⟩ (Nat.lt_of_lt_of_le p2 hg.size)];exact World.cell?_of_block (hg.block p.block p2 (fun e=>p1.2 e.symm))
theorem Ag.grow {S0:Nat->Prop} {w w':World} {V V':Value} {d:D} {cs:List Value} (h:Ag (fun i=>S0 i/\V.ownBlock≠some i) w d cs) (hg:w.grownBy w' V.ownBlock) (ha:V'.ownBlock=V.ownBlock\/V'.ownBlock=some w.heap.size):Ag (fun i=>S0 i/\V'.ownBlock≠some i) w' d cs:=fun w'' k1 k2=>by
 refine Ai.more (h w'' (Nat.le_trans hg.size k1) fun p p1 p2=> ?_) hg.size;have hn:V'.ownBlock≠some p.block:=by
  rcases ha with e|e
  . rw[e];exact p1.2
  . rw[e];intro e4;have:=Option.some.inj e4;omega
 rw[k2 p ⟨p1.1,hn⟩ (Nat.lt_of_lt_of_le p2 hg.size)];exact World.cell?_of_block (hg.block p.block p2 (fun e=>p1.2 e.symm))
theorem An.of_ins {S0:Nat->Prop} {b s n i:Nat} {e:TypeId} {w w':World} {l:List D} {d:D} {ns ys:List Value} {V V':Value} (h1:w'.ownsRow b e s V' n (ns.take (i*s)++ys++ns.drop (i*s))) (hs: ∀x ∈ l,x.cells=s) (hd:d.cells=s) (hA:Aq (fun i=>S0 i/\V.ownBlock≠some i) w l ns) (hx:Ag (fun i=>S0 i/\V.ownBlock≠some i) w d ys)
 (hg:w.grownBy w' V.ownBlock) (ha:V'.ownBlock=V.ownBlock\/V'.ownBlock=some w.heap.size) (hn:n=l.length+1):An S0 b e s w' (l.take i++ [d]++l.drop i) V':=by
 obtain⟨a1,a2⟩:=(hA.grow hg ha).split hs i;refine⟨_, ?_,fun x hx'=> ?_,(a1.app (Aq.one (hx.grow hg ha))).app a2⟩
 . rw[show(l.take i++ [d]++l.drop i).length=n from by rw[hn];simp;omega];exact h1
 . rcases List.mem_append.1 hx' with hx'|hx'
   . rcases List.mem_append.1 hx' with hx'|hx'
     . exact hs x (List.mem_of_mem_take hx')
     . rw[List.mem_singleton.1 hx'];exact hd
   . exact hs x (List.mem_of_mem_drop hx')
theorem Wd {cs:Array Value} {ns ys:List Value} {m o:Nat} (hc:cs.toList.take m=ns) (hn:ns.length=m) (ho:o+ys.length<=m):(Lz cs o ys).toList.take m=ns.take o++ys++ns.drop (o+ys.length):=by
 have hm:m<=cs.size:=by
  rw[<-hc,List.length_take,Array.length_toList]at hn;omega
 refine List.ext_getElem? fun j=> ?_;have hcj: ∀j,j<m->cs[j]? =ns[j]? :=fun j hj=>by rw[<-hc,List.getElem?_take,if_pos hj,Array.getElem?_toList]
 rw[List.getElem?_take];by_cases hj:j<m
 . rw[if_pos hj,Array.getElem?_toList,Kb _ _ _ _ (by omega)];by_cases h1:j<o
   . rw[if_neg (by omega),hcj j hj,List.append_assoc,List.getElem?_append_left (by rw[List.length_take];omega),List.getElem?_take,if_pos h1]
   by_cases h2:j<o+ys.length
   . rw[if_pos ⟨by omega,h2⟩,List.append_assoc,List.getElem?_append_right (by rw[List.length_take];omega),List.length_take,Nat.min_eq_left (by omega),List.getElem?_append_left (by omega)]
   . rw[if_neg (by omega),hcj j hj,List.getElem?_append_right (by rw[List.length_append,List.length_take];omega),List.getElem?_drop,List.length_append,List.length_take,Nat.min_eq_left (by omega)]
     congr 1
     omega
 . rw[if_neg hj,List.getElem?_eq_none (by rw[List.length_append,List.length_append,List.length_take,List.length_drop];omega)]
theorem An.put {S0:Nat->Prop} {b s:Nat} {e:TypeId} {w:World} {l:List D} {d:D} {ys:List Value} {g i n c:Nat} (h:An S0 b e s w l (.slice (some ⟨g,0,none⟩) n c)) (hi:i<l.length) (hd:d.cells=s) (hx:Ag (fun i=>S0 i/\g≠i) w d ys):
 An S0 b e s (Ca w g (i*s) ys) (l.set i d) (.slice (some ⟨g,0,none⟩) n c):=by
 obtain⟨ns,h1,h2,h3⟩:=h;have hyl:ys.length=s:=hx.now.len.1.trans hd;have hnl:ns.length=l.length*s:=by rw[h3.now.len.1,Da h2]
 have hos:i*s+s<=l.length*s:=by
  have:=Nat.mul_le_mul_right s (show i+1<=l.length by omega)
  rwa [Nat.add_mul,Nat.one_mul]at this
 have hsz:=Cy ys w g (i*s);have hf:=fun c (hc:c≠g)=>De ys w g (i*s) c hc;rcases h1.2 with⟨e1,_⟩|⟨g',cap,cur,e1,hbg,hg,hnc,hcm,hcs,hcx⟩
 . cases e1
 . cases e1
   have hmv: ∀w'':World,w.heap.size<=w''.heap.size->(∀p:Addr,S0 p.block/\(Value.slice (some ⟨g,0,none⟩) l.length c).ownBlock≠some p.block->p.block<w.heap.size->w''.cell? p=(Ca w g (i*s) ys).cell? p)-> ∀p:Addr,S0 p.block/\g≠p.block->p.block<w.heap.size->w''.cell? p=w.cell? p:=fun w'' k1 k2 p p1 p2=>by
    rw[k2 p ⟨p1.1,fun e=>p1.2 (Option.some.inj e)⟩ p2];exact World.cell?_of_block (hf p.block fun e=>p1.2 e.symm)
   have hA:=h3.split h2;have hval:l.set i d=l.take i++ [d]++l.drop (i+1):=by
    rw[List.set_eq_take_append_cons_drop,if_pos hi];simp
   refine⟨ns.take (i*s)++ys++ns.drop (i*s+ys.length),⟨?_,.inr ⟨g,c,Lz cur (i*s) ys,by rw[List.length_set],hbg,Gx ys hg,by rw[List.length_set];exact hnc,hcm,by rw[K2];exact hcs, ?_⟩⟩,fun x hx'=> ?_,fun w'' k1 k2=> ?_⟩
   . rw[List.length_set,List.length_append,List.length_append,List.length_take,List.length_drop];omega
   . rw[List.length_set];exact Wd hcx hnl (by omega)
   . rcases List.mem_or_eq_of_mem_set hx' with hx'|rfl
     . exact h2 x hx'
     . exact hd
   . rw[hsz]at k1 k2 ⊢;have hk:=hmv w'' k1 k2;rw[hval,hyl,show i*s+s=(i+1)*s from by rw[Nat.add_mul,Nat.one_mul]];exact(((hA i).1 w'' k1 fun p p1 p2=>hk p ⟨p1.1,fun e=>p1.2 (by rw[e];rfl)⟩ p2).app (Ah.one (hx w'' k1 hk))).app ((hA (i+1)).2 w'' k1 fun p p1 p2=>hk p ⟨p1.1,fun e=>p1.2 (by rw[e];rfl)⟩ p2)
attribute [local go_sem] Oper.semAt_some
def QI (w:World) (g lb d:Nat) (pre:List (Nat×Nat)) (W:World):Prop:=
 Below w.heap.size w W/\BB W w.heap.size g (34::Au pre)/\ ∃m,Uq W lb d m
theorem Qs (s:ByteArray) (w:World) (hT:Cl w) (hs:s.size<=1000000000) (hv:Bc s=true):
 Calls Tryz.prog 167 #[.string s] w fun e w'=>e=.returned (.tuple #[.string ⟨(34::Au (Fo s)++ [34]).toArray⟩,.int .i64 0])/\Below w.heap.size w w':=by
 refine(callsIn_wide (n:=12)).1 ?_;refine callsIn_of_wp_marks Tryz.func167 rfl trivial ?_ rfl;simp only[Tryz.ntmps167,List.size_toArray,List.length_cons,List.length_nil,Nat.reduceAdd,Nat.reduceSub,Array.replicate_succ,Array.replicate_zero,List.push_toArray,List.append_toArray,List.nil_append,List.cons_append]
 gi_wp2_with (refine⟨trivial, ?_⟩;gi_at_call 108;refine(callsIn_wide.2 (Bg hv _ (by omega) hT)).mono ?_;rintro e w1 ⟨rfl,hb1⟩)
 have hz1:=hb1.size;have hB1:BB ((w1.alloc (.cells #[.map none] 272)).alloc (.cells #[.pointer none,.slice none 0 0] 129)) w.heap.size (w1.heap.size+1) []:=
  ⟨_,_,by omega,by rw[<-World.size_alloc w1 (.cells #[.map none] 272)];exact heap_alloc_new _ _,by decide,by simp,.inl rfl,.slice none 0 0,rfl,World.ownsRow_nil _ _ _ _⟩
 have hL1:((w1.alloc (.cells #[.map none] 272)).alloc (.cells #[.pointer none,.slice none 0 0] 129)).heap[w1.heap.size]? =some (.cells #[.map none] 272 (0,0)):=
  (Below.heap_alloc _ _ _ (by simp)).trans (heap_alloc_new _ _)
 have hbx:Below w.heap.size w ((w1.alloc (.cells #[.map none] 272)).alloc (.cells #[.pointer none,.slice none 0 0] 129)):=(hb1.alloc hz1 _).alloc (by simp;omega) _
 gi_wp2_with (first|(refine⟨trivial, ?_⟩;gi_at_call 215;refine(callsIn_wide.2 (D5 34 (by omega) (by omega) hB1 (by simp))).mono ?_;rintro e w2 ⟨rfl,hB2,hb2,hk2⟩)|(refine⟨trivial, ?_⟩;gi_at_call 216;refine(callsIn_wide.2 (Qu _ _)).mono ?_;rintro e w3 ⟨rfl,rfl⟩))
 have hz2:=hb2.size;simp only[World.size_alloc]at hz2;have hL2:w2.heap[w1.heap.size]? =some (.cells #[.map none] 272 (0,0)):=hk2 _ _ hL1 (by simp) (fun c fz e=>by cases e);have hbw2:Below w.heap.size w w2:=hbx.trans hb2;clear hB1 hL1 hb1 hk2 hb2 hbx;have hnew:=heap_alloc_new w2 (.cells #[.string s] 9);have hT3:Cl (w2.alloc (.cells #[.string s] 9)):=hT.below (hbw2.alloc (by omega) _);have hyld:=Qg s w2.heap.size hs;have hB3:BB (w2.alloc (.cells #[.string s] 9)) w.heap.size (w1.heap.size+1) (34::Au []):=hB2.below ((Below.refl _ _).alloc (Nat.le_refl _) _);have hL3:=(Below.heap_alloc w2 (.cells #[.string s] 9) w1.heap.size (by omega)).trans hL2;have hbw3:Below w.heap.size w (w2.alloc (.cells #[.string s] 9)):=hbw2.alloc (by omega) _;have hz3:w2.heap.size+1=(w2.alloc (.cells #[.string s] 9)).heap.size:=by simp
 generalize w2.alloc (.cells #[.string s] 9)=w3 at*
 refine Qn (n:=10) (gf:=237) (lb:= #[.pointer (some ⟨w2.heap.size,0,none⟩)]) rfl (enters_of Tryz.func237 (by kernel_rfl) rfl) hyld (fun _=>rfl)
  (fun pre W=>QI w (w1.heap.size+1) w1.heap.size w3.heap.size pre W/\W.heap[w2.heap.size]? =some (.cells #[.string s] 9 (0,0))) ?hIn ?hIp ?hIb ?h0 ?a1 ?assign ?body ?done
 case assign=>
  intro l x W K hK
  gi_wp2
  exact hK
 case h0=>exact⟨⟨hbw3,hB3,none,hL3,fun _ h=>by cases h⟩,hnew⟩
 case hIb=>
  rintro pre A ⟨⟨h1,h2,h3⟩,h4⟩;exact⟨(Lib.cell_of_heap h4 0).trans rfl,hT.below h1⟩
 case hIn=>
  rintro pre A B ⟨⟨h1,h2,m,h3,h5⟩,h4⟩ hb;refine⟨⟨h1.trans (hb.mono h1.size),h2.below hb,m,(hb.block _ (Array.getElem?_eq_some_iff.1 h3).1).trans h3,fun mb e=>⟨(h5 mb e).1,(hb.block _ (Array.getElem?_eq_some_iff.1 (h5 mb e).2).1).trans (h5 mb e).2⟩⟩,(hb.block _ (Array.getElem?_eq_some_iff.1 h4).1).trans h4⟩
 case hIp=>
  rintro pre A k o o' ⟨⟨h1,h2,m,h3,h5⟩,h4⟩ ho hc hk;have hkw:w.heap.size<=k:=by omega
  have hk1:k<A.heap.size:=(Array.getElem?_eq_some_iff.1 ho).1;refine⟨⟨h1.grown (grownBy_putObj' A k o') (by omega) (fun j e=>by cases e;exact hkw),h2.put ho hc,m, ?_,fun mb e=>⟨(h5 mb e).1, ?_⟩⟩, ?_⟩
  . rw[World.putObj_heap_other (by omega)];exact h3
  . have:=(h5 mb e).1;rw[World.putObj_heap_other (by omega)];exact(h5 mb e).2
  . rw[World.putObj_heap_other (by omega)];exact h4
 case body=>
  rintro l pre x rest W hx ⟨⟨h1,h2,m,h3,h5⟩,h4⟩ ⟨ds,hds⟩ ⟨rc,hrc⟩;have hlen:(Au pre).length<=6000000000:=by
   have e1:=Fm pre;have e2:=congrArg List.length hx;have e3:=Ek s.size s.data.toList 0;simp only[List.length_append,List.length_cons]at e2;unfold Fo at e2;omega
  have hr:x.2<=1114111:=Ki s.size s.data.toList 0 x (by show x ∈ Fo s;rw[hx];simp);have hsn:Au (pre++ [x])=Au pre++B4 x.2:=by simp[Au]
  obtain⟨p,r⟩:=x;simp only at hr hsn;have hz:=h1.size;have hDm:w3.heap.size+1<W.heap.size:=(Array.getElem?_eq_some_iff.1 hrc).1;have hdt:w1.heap.size+1<w3.heap.size:=by omega
  have hsb:w2.heap.size<w3.heap.size:=by omega
  have hsa:w1.heap.size+1<w2.heap.size:=by omega
  have fin: ∀(a:Act) (X:World) (bs:List UInt8),BB X w.heap.size (w1.heap.size+1) bs->bs=34::Au (pre++ [(p,r)])->Below w.heap.size w X->(∃m,Uq X w1.heap.size w3.heap.size m)->
   X.heap[w3.heap.size]? =some (.deferred ds)->X.heap[w3.heap.size+1]? =some (.loop rc)->X.heap[w2.heap.size]? =some (.cells #[.string s] 9 (0,0))->
   Kx (fun X=>QI w (w1.heap.size+1) w1.heap.size w3.heap.size (pre++ [(p,r)]) X/\X.heap[w2.heap.size]? =some (.cells #[.string s] 9 (0,0))) w3.heap.size W .normal a X:=by
   intro a X bs hb e hbw hl hd hr2 hbox;subst e;exact⟨hd.trans hds.symm,hr2.trans hrc.symm,⟨hbw,hb,hl⟩,hbox⟩
  have Fin:=qz fin;clear fin;by_cases hst:32<=r/\r≠34/\r≠92
  . have hq:B4 r=Lib.encodeRune r:=by unfold B4;rw[if_pos hst]
    have hB:decide (32<=(r:Int)/\(r:Int)≠34/\(r:Int)≠92)=true:=by simp;omega
    have Hq:Hid ((34::Au pre)++Lib.encodeRune r=34::Au (pre++ [(p,r)])):=by
     show _=_;rw[hsn,hq];rfl
    clear hsn hq hst hx
    gi_wp2_with (first|(refine⟨trivial, ?_⟩;gi_at_call 217;refine(CallsIn.inRound l (callsIn_wide.2 (Cs hB _))).mono ?_;rintro e wx ⟨rfl,rfl⟩)|(refine⟨trivial, ?_⟩;gi_at_call 218;refine(CallsIn.inRound l (callsIn_wide.2 (Gi (r:Int) (by omega) (by omega) h2 (by simp;omega)))).mono ?_;rintro e w4 ⟨⟨kk,rfl⟩,hB4,hb4,hk4⟩))
    exact Fin.out _ _ _ hB4 Hq.out (h1.trans hb4) ⟨m,hk4 _ _ h3 (by simp) (fun c fz e=>by cases e),fun mb e=>⟨(h5 mb e).1,hk4 _ _ (h5 mb e).2 (by have:=(h5 mb e).1;simp;omega) (fun c fz e=>by cases e)⟩⟩
     (hk4 _ _ hds (by simp;omega) (fun c fz e=>by cases e)) (hk4 _ _ hrc (by simp;omega) (fun c fz e=>by cases e)) (hk4 _ _ h4 (by simp;omega) (fun c fz e=>by cases e))
  . have hB:decide (32<=(r:Int)/\(r:Int)≠34/\(r:Int)≠92)=false:=by simp;omega
    have hnil:=fun(wx:World) (m0:Option Nat)=>run_eql_map_nil (P:=Tryz.prog) wx 272 _ _ m0 Tryz.underlying272;rcases m with _|mb
    ·
     obtain⟨X,hX⟩: ∃X,(W.setCell ⟨w1.heap.size,0,none⟩ (.map (some W.heap.size))).alloc (.map (Gz Be 0).toArray Be.length)=X:=⟨_,rfl⟩;have hsz:(W.setCell ⟨w1.heap.size,0,none⟩ (.map (some W.heap.size))).heap.size=W.heap.size:=by simp[World.setCell]
     have hXk: ∀k,k≠w1.heap.size->k<W.heap.size->X.heap[k]? =W.heap[k]? :=fun k hk hk'=>by
      rw[<-hX,Below.heap_alloc _ _ _ (by omega),Below.heap_setCell _ _ _ _ hk]
     have hXB:BB X w.heap.size (w1.heap.size+1) (34::Au pre):=by
      rw[<-hX];exact(h2.store h3 (by decide) (by omega) 0 _).below ((Below.refl _ _).alloc (Nat.le_refl _) _)
     have hXw:Below w.heap.size w X:=by
      rw[<-hX];exact(h1.setCell (p:=⟨w1.heap.size,0,none⟩) hz1 _).alloc (by omega) _
     have hXl:X.heap[w1.heap.size]? =some (.cells #[.map (some W.heap.size)] 272 (0,0)):=by
      rw[<-hX,Below.heap_alloc _ _ _ (by omega)];exact E7 h3 _
     have hXm:X.heap[W.heap.size]? =some (.map (Gz Be 0).toArray Be.length):=by
      rw[<-hX];have:=heap_alloc_new (W.setCell ⟨w1.heap.size,0,none⟩ (.map (some W.heap.size))) (.map (Gz Be 0).toArray Be.length)
      rwa [hsz]at this
     have hXd:=(hXk _ (by omega) (by omega)).trans hds;have hXr:=(hXk _ (by omega) (by omega)).trans hrc;have hX4:=(hXk _ (by omega) (by omega)).trans h4;have c3:W.cell? ⟨w1.heap.size,0,none⟩=some (.map none):=(Lib.cell_of_heap h3 0).trans rfl;have f3:W.frozen? ⟨w1.heap.size,0,none⟩=false:=Lib.frozen_of_heap h3 0;have hlb:w1.heap.size<W.heap.size:=by omega
     have hlk:=Si X W.heap.size Be r hXm;have hmb:w3.heap.size+1<W.heap.size:=hDm;subst hX
     cases hf:C6 (r:Int) Be with
     |some c=>
      rw[hf]at hlk;simp only[Option.getD_some,Option.isSome_some]at hlk;have hc:=I9 hf;have hc0:=hc.1;have hc1:=hc.2;have hq:B4 r= [92,UInt8.ofNat c.toNat]:=by unfold B4;rw[if_neg hst,hf]
      have Hq:Hid (((34::Au pre)++ [UInt8.ofNat (Int.toNat 92)])++Lib.encodeRune c=34::Au (pre++ [(p,r)])):=by
       show _=_;rw[hsn,hq,J5 (by omega) hc1];simp
      clear hsn hq hst hx hf hc h5 h2
      gi_wp2_with (first|(refine⟨trivial, ?_⟩;gi_at_call 217;refine(CallsIn.inRound l (callsIn_wide.2 (Cs hB _))).mono ?_;rintro e wx ⟨rfl,rfl⟩)|(refine⟨trivial, ?_⟩;gi_at_call 219;refine(CallsIn.inRound l (callsIn_wide.2 (Hs _))).mono ?_;rintro e wx ⟨rfl,rfl⟩)|(refine⟨trivial, ?_⟩;gi_at_call 215;refine(CallsIn.inRound l (callsIn_wide.2 (D5 92 (by omega) (by omega) hXB (by simp;omega)))).mono ?_;rintro e w4 ⟨rfl,hB4,hb4,hk4⟩)|(refine⟨trivial, ?_⟩;gi_at_call 218;refine(CallsIn.inRound l (callsIn_wide.2 (Gi c (by omega) (by omega) hB4 (by simp;omega)))).mono ?_;rintro e w5 ⟨⟨kk,rfl⟩,hB5,hb5,hk5⟩))
      have hkk:=hk4.trans hk5;exact Fin.out _ _ _ hB5 Hq.out ((hXw.trans hb4).trans hb5) ⟨some W.heap.size,hkk _ _ hXl (by simp) (fun c fz e=>by cases e),fun m' e=>by cases e;exact⟨hmb,hkk _ _ hXm (by simp;omega) (fun c fz e=>by cases e)⟩⟩
       (hkk _ _ hXd (by simp;omega) (fun c fz e=>by cases e)) (hkk _ _ hXr (by simp;omega) (fun c fz e=>by cases e)) (hkk _ _ hX4 (by simp;omega) (fun c fz e=>by cases e))
     |none=>
      rw[hf]at hlk;simp only[Option.getD_none,Option.isSome_none]at hlk;have hr32:=J7 hf hst;have hq:B4 r= [92,117,48,48,Mq (r / 16),Mq (r % 16)]:=by unfold B4;rw[if_neg hst,hf]
      gi_wp2_with (first|(refine⟨trivial, ?_⟩;gi_at_call 217;refine(CallsIn.inRound l (callsIn_wide.2 (Cs hB _))).mono ?_;rintro e wx ⟨rfl,rfl⟩)|(refine⟨trivial, ?_⟩;gi_at_call 219;refine(CallsIn.inRound l (callsIn_wide.2 (Hs _))).mono ?_;rintro e wx ⟨rfl,rfl⟩)|(refine⟨trivial, ?_⟩;gi_at_call 164;refine(CallsIn.inRound l (callsIn_wide.2 (G6 ⟨#[92,117,48,48]⟩ hXB (by simp[ByteArray.size];omega)))).mono ?_;rintro e w4 ⟨rfl,hB4,hb4,hk4⟩))
      refine⟨trivial, ?_⟩;refine(CallsIn.inRound l (callsIn_wide.2 (Ih _ hB4 (by simp;omega)))).mono ?_;rintro e w5 ⟨rfl,hB5,hb5,hk5⟩;rw[L5 ⟨r / 16,by omega⟩]at hB5;have hand:=Aam ⟨r,hr32⟩;dsimp only at hand;have hm0:0<=(r:Int) % 16:=by omega
      have hm1:(r:Int) % 16<16:=by omega
      have hm2:r % 16<16:=by omega
      gi_wp2_with fail
      refine⟨trivial, ?_⟩;refine(CallsIn.inRound l (callsIn_wide.2 (Ih _ hB5 (by simp;omega)))).mono ?_;rintro e w6 ⟨rfl,hB6,hb6,hk6⟩;rw[L5 ⟨r % 16,by omega⟩]at hB6
      gi_wp2_with fail
      have hkk:=(hk4.trans hk5).trans hk6;have Hq:(((34::Au pre)++ [92,117,48,48])++ [Mq (r / 16)])++ [Mq (r % 16)]=34::Au (pre++ [(p,r)]):=by
       rw[hsn,hq];simp
      exact Fin.out _ _ _ hB6 Hq (((hXw.trans hb4).trans hb5).trans hb6) ⟨some W.heap.size,hkk _ _ hXl (by simp) (fun c fz e=>by cases e),fun m' e=>by cases e;exact⟨hmb,hkk _ _ hXm (by simp;omega) (fun c fz e=>by cases e)⟩⟩
       (hkk _ _ hXd (by simp;omega) (fun c fz e=>by cases e)) (hkk _ _ hXr (by simp;omega) (fun c fz e=>by cases e)) (hkk _ _ hX4 (by simp;omega) (fun c fz e=>by cases e))
    ·
     have hXm:=(h5 mb rfl).2;have hmb:=(h5 mb rfl).1;have c3:W.cell? ⟨w1.heap.size,0,none⟩=some (.map (some mb)):=(Lib.cell_of_heap h3 0).trans rfl;have hlk:=Si W mb Be r hXm;have hXB:=h2;have hXw:=h1;have hXl:=h3;have hXd:=hds;have hXr:=hrc;have hX4:=h4
     cases hf:C6 (r:Int) Be with
     |some c=>
      rw[hf]at hlk;simp only[Option.getD_some,Option.isSome_some]at hlk;have hc:=I9 hf;have hc0:=hc.1;have hc1:=hc.2;have hq:B4 r= [92,UInt8.ofNat c.toNat]:=by unfold B4;rw[if_neg hst,hf]
      have Hq:Hid (((34::Au pre)++ [UInt8.ofNat (Int.toNat 92)])++Lib.encodeRune c=34::Au (pre++ [(p,r)])):=by
       show _=_;rw[hsn,hq,J5 (by omega) hc1];simp
      clear hsn hq hst hx hf hc h5 h2
      gi_wp2_with (first|(refine⟨trivial, ?_⟩;gi_at_call 217;refine(CallsIn.inRound l (callsIn_wide.2 (Cs hB _))).mono ?_;rintro e wx ⟨rfl,rfl⟩)|(refine⟨trivial, ?_⟩;gi_at_call 215;refine(CallsIn.inRound l (callsIn_wide.2 (D5 92 (by omega) (by omega) hXB (by simp;omega)))).mono ?_;rintro e w4 ⟨rfl,hB4,hb4,hk4⟩)|(refine⟨trivial, ?_⟩;gi_at_call 218;refine(CallsIn.inRound l (callsIn_wide.2 (Gi c (by omega) (by omega) hB4 (by simp;omega)))).mono ?_;rintro e w5 ⟨⟨kk,rfl⟩,hB5,hb5,hk5⟩))
      have hkk:=hk4.trans hk5;exact Fin.out _ _ _ hB5 Hq.out ((hXw.trans hb4).trans hb5) ⟨some mb,hkk _ _ hXl (by simp) (fun c fz e=>by cases e),fun m' e=>by cases e;exact⟨hmb,hkk _ _ hXm (by simp;omega) (fun c fz e=>by cases e)⟩⟩
       (hkk _ _ hXd (by simp;omega) (fun c fz e=>by cases e)) (hkk _ _ hXr (by simp;omega) (fun c fz e=>by cases e)) (hkk _ _ hX4 (by simp;omega) (fun c fz e=>by cases e))
     |none=>
      rw[hf]at hlk;simp only[Option.getD_none,Option.isSome_none]at hlk;have hr32:=J7 hf hst;have hq:B4 r= [92,117,48,48,Mq (r / 16),Mq (r % 16)]:=by unfold B4;rw[if_neg hst,hf]
      gi_wp2_with (first|(refine⟨trivial, ?_⟩;gi_at_call 217;refine(CallsIn.inRound l (callsIn_wide.2 (Cs hB _))).mono ?_;rintro e wx ⟨rfl,rfl⟩)|(refine⟨trivial, ?_⟩;gi_at_call 164;refine(CallsIn.inRound l (callsIn_wide.2 (G6 ⟨#[92,117,48,48]⟩ hXB (by simp[ByteArray.size];omega)))).mono ?_;rintro e w4 ⟨rfl,hB4,hb4,hk4⟩))
      refine⟨trivial, ?_⟩;refine(CallsIn.inRound l (callsIn_wide.2 (Ih _ hB4 (by simp;omega)))).mono ?_;rintro e w5 ⟨rfl,hB5,hb5,hk5⟩;rw[L5 ⟨r / 16,by omega⟩]at hB5;have hand:=Aam ⟨r,hr32⟩;dsimp only at hand;have hm0:0<=(r:Int) % 16:=by omega
      have hm1:(r:Int) % 16<16:=by omega
      have hm2:r % 16<16:=by omega
      gi_wp2_with fail
      refine⟨trivial, ?_⟩;refine(CallsIn.inRound l (callsIn_wide.2 (Ih _ hB5 (by simp;omega)))).mono ?_;rintro e w6 ⟨rfl,hB6,hb6,hk6⟩;rw[L5 ⟨r % 16,by omega⟩]at hB6
      gi_wp2_with fail
      have hkk:=(hk4.trans hk5).trans hk6;have Hq:(((34::Au pre)++ [92,117,48,48])++ [Mq (r / 16)])++ [Mq (r % 16)]=34::Au (pre++ [(p,r)]):=by
       rw[hsn,hq];simp
      exact Fin.out _ _ _ hB6 Hq (((hXw.trans hb4).trans hb5).trans hb6) ⟨some mb,hkk _ _ hXl (by simp) (fun c fz e=>by cases e),fun m' e=>by cases e;exact⟨hmb,hkk _ _ hXm (by simp;omega) (fun c fz e=>by cases e)⟩⟩
       (hkk _ _ hXd (by simp;omega) (fun c fz e=>by cases e)) (hkk _ _ hXr (by simp;omega) (fun c fz e=>by cases e)) (hkk _ _ hX4 (by simp;omega) (fun c fz e=>by cases e))
 case done=>
  rintro W ⟨⟨h1,h2,m,h3,h5⟩,h4⟩ hds;have hdt:w1.heap.size+1<w3.heap.size:=by omega
  have hlen:(Au (Fo s)).length<=6000000000:=by
   have e1:=Fm (Fo s);have e3:=Ek s.size s.data.toList 0;unfold Fo at e1 ⊢;omega
  gi_wp2_with (first|(refine⟨trivial, ?_⟩;gi_at_call 215;refine(callsIn_wide.2 (D5 34 (by omega) (by omega) h2 (by simp;omega))).mono ?_;rintro e w4 ⟨rfl,hB4,hb4,hk4⟩)|(refine⟨trivial, ?_⟩;gi_at_call 82;refine(callsIn_wide.2 (Vh hB4 (by simp))).mono ?_;rintro e w5 ⟨rfl,hb5,hk5⟩))
  have hd4:=hk4 _ _ hds (by simp;omega) (fun c fz e=>by cases e);have hd5:=hk5 _ _ hd4 (by simp;omega) (fun c fz e=>by cases e);refine⟨by simp,.inl ⟨_,_,rfl,run_takeDeferred hd5, ?_⟩⟩;have hbw5:Below w.heap.size w w5:=(h1.trans hb4).trans hb5;refine⟨_,results_tmp2 rfl _ _ _,rfl,hbw5.grown (grownBy_putObj' w5 _ _) hbw5.size (fun k e=>by cases e;omega)⟩
end Go.Proofs.YtdbejcbbhomdbaaGreatDoor
