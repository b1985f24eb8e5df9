/- Parts: A range over an iterator that yields a known list, by a body that may leave the function: the law that the walks use. No condition. -/
import Derived.Lib.MapLaws
import Derived.Laws.OwnMore
import Derived.Deep.AppendLies
import Derived.Deep.Draws
import Derived.Laws.Rows
import Derived.Maps.AppendAt
import Derived.RegionTactic
import Derived.OwnWalk
import Derived.Maps.OwnSet
import Derived.Test.YtobmaegpfbheoaaGreatDoorKMo2
namespace Go.Proofs.YtobmaegpfbheoaaGreatDoor
open Go.RowKit
inductive D where
 |leaf (v:Value)
 |agg (l:List D)
 |row (s:Nat) (l:List D)
mutual
def D.cells:D->Nat
 | .leaf _=>1
 | .agg l=>Kp l
 | .row _ _=>1
def Kp:List D->Nat
 | []=>0
 |d::r=>d.cells+Kp r
end
mutual
def Ai (w:World) (B:Nat):D->List Value->Prop
 | .leaf v,cs=>cs= [v]/\v.oneCell'=true
 | .agg l,cs=>Ah w B l cs
 | .row s l,cs=> ∃a c,cs= [.slice a l.length c]/\(∀d ∈ l,d.cells=s)/\ ∃ns,Ah w B l ns/\(l= []\/ ∃g off,a=some ⟨g,off,none⟩/\g<B/\ ∀j u,ns[j]? =some u->w.cell? ⟨g,off+j,none⟩=some u)
def Ah (w:World) (B:Nat):List D->List Value->Prop
 | [],cs=>cs= []
 |d::r,cs=> ∃c1 c2,cs=c1++c2/\Ai w B d c1/\Ah w B r c2
end
theorem D.ind {p:D->Prop} (h0: ∀v,p (.leaf v)) (h1: ∀l,(∀d ∈ l,p d)->p (.agg l)) (h2: ∀s l,(∀d ∈ l,p d)->p (.row s l)): ∀d,p d:=by
 intro d;refine D.rec (motive_1:=p) (motive_2:=fun l=> ∀d ∈ l,p d) h0 h1 h2 ?_ ?_ d
 . intro d hd
   cases hd
 . intro d r hd hr x hx;rcases List.mem_cons.1 hx with rfl|hx
   . exact hd
   . exact hr x hx
theorem Ah.len_of {w:World} {B:Nat}: ∀{l:List D},(∀d ∈ l,∀cs,Ai w B d cs->cs.length=d.cells/\ ∀u ∈ cs,u.oneCell'=true)-> ∀{cs},Ah w B l cs->cs.length=Kp l/\ ∀u ∈ cs,u.oneCell'=true
 | [],_,cs,h=>by
   have:cs= []:=h;subst this;exact⟨rfl,fun u hu=>by cases hu⟩
 |d::r,ih,cs,h=>by
  obtain⟨c1,c2,rfl,h1,h2⟩:=h;obtain⟨a1,a2⟩:=ih d (by simp) c1 h1;obtain⟨b1,b2⟩:=Ah.len_of (fun x hx=>ih x (by simp[hx])) h2;refine⟨by simp only[List.length_append,Kp,a1,b1],fun u hu=> ?_⟩;rcases List.mem_append.1 hu with hu|hu
  . exact a2 u hu
  . exact b2 u hu
theorem Ai.len {w:World} {B:Nat}: ∀{d:D} {cs},Ai w B d cs->cs.length=d.cells/\ ∀u ∈ cs,u.oneCell'=true:=by
 intro d;refine D.ind (p:=fun d=> ∀{cs},Ai w B d cs->cs.length=d.cells/\ ∀u ∈ cs,u.oneCell'=true) ?_ ?_ ?_ d
 . intro v cs h;obtain⟨rfl,hv⟩:=h;exact⟨rfl,fun u hu=>by simp at hu;rw[hu];exact hv⟩
 . intro l ih cs h;exact Ah.len_of (fun d hd _=>ih d hd) h
 . intro s l _ cs h;obtain⟨a,c,rfl,_⟩:=h;exact⟨rfl,fun u hu=>by simp at hu;rw[hu];rfl⟩
theorem Ah.len {w:World} {B:Nat} {l:List D} {cs:List Value} (h:Ah w B l cs):cs.length=Kp l/\ ∀u ∈ cs,u.oneCell'=true:=Ah.len_of (fun _ _ _ hd=>hd.len) h
theorem Lj {s:Nat}: ∀{l:List D},(∀d ∈ l,d.cells=s)->Kp l=l.length*s
 | [],_=>by simp[Kp]
 |d::r,h=>by
  have h1:=h d (by simp);have h2:=Lj (l:=r) (fun x hx=>h x (by simp[hx]));simp only[Kp,List.length_cons,Nat.add_mul,Nat.one_mul];omega
theorem Ah.imp {w w':World} {B B':Nat}: ∀{l:List D},(∀d ∈ l,∀cs,Ai w B d cs->Ai w' B' d cs)-> ∀{cs},Ah w B l cs->Ah w' B' l cs
 | [],_,_,h=>h
 |d::r,ih,cs,h=>by
  obtain⟨c1,c2,e,h1,h2⟩:=h;exact⟨c1,c2,e,ih d (by simp) c1 h1,Ah.imp (fun x hx=>ih x (by simp[hx])) h2⟩
theorem Ai.imp {w w':World} {B B':Nat} (hB:B<=B') (hk: ∀p:Addr,p.block<B->w'.cell? p=w.cell? p): ∀{d:D} {cs},Ai w B d cs->Ai w' B' d cs:=by
 intro d;refine D.ind (p:=fun d=> ∀{cs},Ai w B d cs->Ai w' B' d cs) ?_ ?_ ?_ d
 . intro v cs h;exact h
 . intro l ih cs h;exact Ah.imp (fun d hd _=>ih d hd) h
 . intro s l ih cs h;obtain⟨a,c,e,hs,ns,h1,h2⟩:=h;refine⟨a,c,e,hs,ns,Ah.imp (fun d hd _=>ih d hd) h1, ?_⟩;rcases h2 with h2|⟨g,off,ea,hg,hcell⟩
   . exact .inl h2
   . exact .inr ⟨g,off,ea,by omega,fun j u hu=>(hk _ hg).trans (hcell j u hu)⟩
theorem Ai.keep {w w':World} {B:Nat} {d:D} {cs:List Value} (h:Ai w B d cs) (hk: ∀p:Addr,p.block<B->w'.cell? p=w.cell? p):Ai w' B d cs:=h.imp (Nat.le_refl _) hk
theorem Ai.below {w w':World} {B:Nat} {d:D} {cs:List Value} (h:Ai w B d cs) (hb:Below B w w'):Ai w' B d cs:=h.keep fun _ hp=>hb.cell hp
theorem Ai.more {w:World} {B B':Nat} {d:D} {cs:List Value} (h:Ai w B d cs) (hB:B<=B'):Ai w B' d cs:=h.imp hB fun _ _=>rfl
theorem Ah.keep {w w':World} {B:Nat} {l:List D} {cs:List Value} (h:Ah w B l cs) (hk: ∀p:Addr,p.block<B->w'.cell? p=w.cell? p):Ah w' B l cs:=Ah.imp (fun _ _ _ hd=>hd.keep hk) h
theorem Ah.below {w w':World} {B:Nat} {l:List D} {cs:List Value} (h:Ah w B l cs) (hb:Below B w w'):Ah w' B l cs:=h.keep fun _ hp=>hb.cell hp
theorem Ah.more {w:World} {B B':Nat} {l:List D} {cs:List Value} (h:Ah w B l cs) (hB:B<=B'):Ah w B' l cs:=Ah.imp (fun _ _ _ hd=>hd.more hB) h
theorem Ai.later {w w':World} {d:D} {cs:List Value} (h:Ai w w.heap.size d cs) (hb:Below w.heap.size w w'):Ai w' w'.heap.size d cs:=(h.below hb).more hb.size
theorem Ah.later {w w':World} {l:List D} {cs:List Value} (h:Ah w w.heap.size l cs) (hb:Below w.heap.size w w'):Ah w' w'.heap.size l cs:=(h.below hb).more hb.size
theorem Ah.app {w:World} {B:Nat}: ∀{a b:List D} {ns ms:List Value},Ah w B a ns->Ah w B b ms->Ah w B (a++b) (ns++ms)
 | [],b,ns,ms,h,h'=>by
   have:ns= []:=h;subst this;exact h'
 |d::r,b,ns,ms,h,h'=>by
  obtain⟨c1,c2,rfl,h1,h2⟩:=h;exact⟨c1,c2++ms,by simp,h1,Ah.app h2 h'⟩
theorem Ah.one {w:World} {B:Nat} {d:D} {cs:List Value} (h:Ai w B d cs):Ah w B [d] cs:=⟨cs, [],by simp,h,rfl⟩
theorem Ah.snoc {w:World} {B:Nat} {l:List D} {d:D} {ns cs:List Value} (h:Ah w B l ns) (hd:Ai w B d cs):Ah w B (l++ [d]) (ns++cs):=h.app (Ah.one hd)
theorem Ah.split {w:World} {B s:Nat}: ∀{l:List D} {ns:List Value} (k:Nat),(∀d ∈ l,d.cells=s)->Ah w B l ns->Ah w B (l.take k) (ns.take (k*s))/\Ah w B (l.drop k) (ns.drop (k*s))
 | [],ns,k,_,h=>by
   have:ns= []:=h;subst this;simp[Ah]
 |d::r,ns,0,_,h=>by
  simp only[List.take_zero,Nat.zero_mul,List.drop_zero];exact⟨rfl,h⟩
 |d::r,ns,k+1,hs,h=>by
  obtain⟨c1,c2,rfl,h1,h2⟩:=h;obtain⟨a,b⟩:=Ah.split k (fun x hx=>hs x (by simp[hx])) h2;have hl:c1.length=s:=h1.len.1.trans (hs d (by simp));have e1:(c1++c2).take ((k+1)*s)=c1++c2.take (k*s):=by
   rw[List.take_append,List.take_of_length_le (by rw[hl,Nat.add_mul];omega),hl,Nat.add_mul,Nat.one_mul,Nat.add_sub_cancel]
  have e2:(c1++c2).drop ((k+1)*s)=c2.drop (k*s):=by
   rw[List.drop_append,List.drop_eq_nil_of_le (by rw[hl,Nat.add_mul];omega),hl,Nat.add_mul,Nat.one_mul,Nat.add_sub_cancel,List.nil_append]
  rw[e1,e2];exact⟨⟨c1,c2.take (k*s),rfl,h1,a⟩,b⟩
theorem Ah.at_ {w:World} {B s:Nat} {l:List D} {ns:List Value} (hs: ∀d ∈ l,d.cells=s) (h:Ah w B l ns) {i:Nat} {d:D} (hi:l[i]? =some d):
 ∃cs,Ai w B d cs/\cs.length=s/\ ∀j u,cs[j]? =some u->ns[i*s+j]? =some u:=by
 obtain⟨_,h2⟩:=Ah.split i hs h;obtain⟨hlt,rfl⟩:=List.getElem?_eq_some_iff.1 hi;rw[List.drop_eq_getElem_cons hlt]at h2;obtain⟨c1,c2,e,h3,_⟩:=h2;have hl:c1.length=s:=h3.len.1.trans (hs _ (List.getElem_mem hlt));refine⟨c1,h3,hl,fun j u hu=> ?_⟩;have h5:=(List.getElem?_eq_some_iff.1 hu).1;have h4:(ns.drop (i*s))[j]? =some u:=by
  rw[e,List.getElem?_append_left h5];exact hu
 rwa [List.getElem?_drop]at h4
theorem Ai.at_ {w:World} {B s:Nat} {l:List D} {a:Option Addr} {n c:Nat} (h:Ai w B (.row s l) [.slice a n c]) {i:Nat} {d:D} (hi:l[i]? =some d):
 ∃g off,a=some ⟨g,off,none⟩/\g<B/\ ∃cs,Ai w B d cs/\cs.length=s/\ ∀j u,cs[j]? =some u->w.cell? ⟨g,off+i*s+j,none⟩=some u:=by
 obtain⟨a',c',e,hs,ns,h1,h2⟩:=h;simp only[List.cons.injEq,Value.slice.injEq,and_true]at e;obtain⟨rfl,rfl,rfl⟩:=e;rcases h2 with rfl|⟨g,off,ea,hg,hcell⟩
 . simp at hi
 . obtain⟨cs,h3,h4,h5⟩:=h1.at_ hs hi;exact⟨g,off,ea,hg,cs,h3,h4,fun j u hu=>by rw[Nat.add_assoc];exact hcell _ u (h5 j u hu)⟩
theorem Ai.row_len {w:World} {B s:Nat} {l:List D} {a:Option Addr} {n c:Nat} (h:Ai w B (.row s l) [.slice a n c]):n=l.length:=by
 obtain⟨a',c',e,_⟩:=h;simp only[List.cons.injEq,Value.slice.injEq,and_true]at e;obtain⟨rfl,rfl,rfl⟩:=e;exact rfl
def An (b:Nat) (w':World) (d:D) (cs:List Value):Prop:=
 ∀w'':World,w'.heap.size<=w''.heap.size->(∀p:Addr,b<=p.block->p.block<w'.heap.size->w''.cell? p=w'.cell? p)->Ai w'' w'.heap.size d cs
def Bc (b:Nat) (w':World) (l:List D) (cs:List Value):Prop:=
 ∀w'':World,w'.heap.size<=w''.heap.size->(∀p:Addr,b<=p.block->p.block<w'.heap.size->w''.cell? p=w'.cell? p)->Ah w'' w'.heap.size l cs
theorem An.now {b:Nat} {w':World} {d:D} {cs:List Value} (h:An b w' d cs):Ai w' w'.heap.size d cs:=h w' (Nat.le_refl _) fun _ _ _=>rfl
theorem Bc.now {b:Nat} {w':World} {l:List D} {cs:List Value} (h:Bc b w' l cs):Ah w' w'.heap.size l cs:=h w' (Nat.le_refl _) fun _ _ _=>rfl
theorem Bc.nil (b:Nat) (w':World):Bc b w' [] []:=fun _ _ _=>rfl
theorem Bc.keep {b:Nat} {wr w':World} {l:List D} {ns:List Value} (h:Bc b wr l ns) (hs:wr.heap.size<=w'.heap.size) (hk: ∀p:Addr,b<=p.block->p.block<wr.heap.size->w'.cell? p=wr.cell? p):Bc b w' l ns:=
 fun w'' h1 h2=>Ah.more (h w'' (Nat.le_trans hs h1) (fun p p1 p2=>(h2 p p1 (Nat.lt_of_lt_of_le p2 hs)).trans (hk p p1 p2))) hs
theorem An.keep {b b':Nat} {wr w':World} {d:D} {ns:List Value} (h:An b wr d ns) (hb:b'<=b) (hs:wr.heap.size<=w'.heap.size) (hk: ∀p:Addr,b<=p.block->p.block<wr.heap.size->w'.cell? p=wr.cell? p):An b' w' d ns:=
 fun w'' h1 h2=>Ai.more (h w'' (Nat.le_trans hs h1) (fun p p1 p2=>(h2 p (Nat.le_trans hb p1) (Nat.lt_of_lt_of_le p2 hs)).trans (hk p p1 p2))) hs
theorem An.later {b:Nat} {w w':World} {d:D} {ns:List Value} (h:An b w d ns) (hb:Below w.heap.size w w'):An b w' d ns:=h.keep (Nat.le_refl _) hb.size fun _ _ p2=>hb.cell p2
theorem Bc.later {b:Nat} {w w':World} {l:List D} {ns:List Value} (h:Bc b w l ns) (hb:Below w.heap.size w w'):Bc b w' l ns:=h.keep hb.size fun _ _ p2=>hb.cell p2
theorem Bc.row {b s:Nat} {w':World} {l:List D} {ns:List Value} {a:Option Addr} {c:Nat} (h:Bc b w' l ns) (hs: ∀d ∈ l,d.cells=s)
 (ha:l= []\/ ∃g off,a=some ⟨g,off,none⟩/\b<=g/\g<w'.heap.size/\ ∀j u,ns[j]? =some u->w'.cell? ⟨g,off+j,none⟩=some u):An b w' (.row s l) [.slice a l.length c]:=by
 intro w'' h1 h2;refine⟨a,c,rfl,hs,ns,h w'' h1 h2, ?_⟩;rcases ha with ha|⟨g,off,e,hbg,hg,hcell⟩
 . exact .inl ha
 . exact .inr ⟨g,off,e,hg,fun j u hu=>(h2 _ hbg hg).trans (hcell j u hu)⟩
mutual
def dV:Val->D
 | .mk k b n t l o=> .agg [.leaf (.int .i64 k),.leaf (.bool b),.leaf (.int .i64 n),.leaf (.string t),.row 6 (dL l),.row 7 (dO o)]
def dL:List Val->List D
 | []=> []
 |v::r=>dV v::dL r
def dO:List (ByteArray×Val)->List D
 | []=> []
 |p::r=>dP p::dO r
def dP:ByteArray×Val->D
 |(key,v)=> .agg [.leaf (.string key),dV v]
end
theorem Fx: ∀l,dL l=l.map dV
 | []=>rfl
 |v::r=>by simp[dL,Fx r]
theorem D4: ∀l,dO l=l.map dP
 | []=>rfl
 |v::r=>by simp[dO,D4 r]
theorem Cw (v:Val):(dV v).cells=6:=by
 obtain⟨k,b,n,t,l,o⟩:=v;rfl
theorem Cv (p:ByteArray×Val):(dP p).cells=7:=by
 obtain⟨k,v⟩:=p;simp only[dP,D.cells,Kp,Cw]
theorem X4 (l:List Val): ∀d ∈ dL l,d.cells=6:=by
 rw[Fx];intro d hd;obtain⟨v,_,rfl⟩:=List.mem_map.1 hd;exact Cw v
theorem Cu (l:List (ByteArray×Val)): ∀d ∈ dO l,d.cells=7:=by
 rw[D4];intro d hd;obtain⟨v,_,rfl⟩:=List.mem_map.1 hd;exact Cv v
theorem Gh (l:List Val):(dL l).length=l.length:=by rw[Fx,List.length_map]
theorem Dg (l:List (ByteArray×Val)):(dO l).length=l.length:=by rw[D4,List.length_map]
theorem Ah.six {w:World} {B:Nat} {a b c d:Value} {e f:D} {cs:List Value}:
 Ah w B [.leaf a,.leaf b,.leaf c,.leaf d,e,f] cs ↔ ∃c4 c5,cs= [a,b,c,d]++(c4++c5)/\a.oneCell'=true/\b.oneCell'=true/\c.oneCell'=true/\d.oneCell'=true/\Ai w B e c4/\Ai w B f c5:=by
 constructor
 . rintro⟨_,_,rfl,⟨rfl,ha⟩,_,_,rfl,⟨rfl,hb⟩,_,_,rfl,⟨rfl,hc⟩,_,_,rfl,⟨rfl,hd⟩,c4,_,rfl,h4,c5,_,rfl,h5,rfl⟩;exact⟨c4,c5,by simp,ha,hb,hc,hd,h4,h5⟩
 . rintro⟨c4,c5,rfl,ha,hb,hc,hd,h4,h5⟩;exact⟨[a],_,rfl,⟨rfl,ha⟩, [b],_,rfl,⟨rfl,hb⟩, [c],_,rfl,⟨rfl,hc⟩, [d],_,rfl,⟨rfl,hd⟩,c4,_,rfl,h4,c5, [],by simp,h5,rfl⟩
theorem Ah.toL {w:World} {B:Nat} {g:Nat}: ∀{l:List Val},(∀v ∈ l,∀cs,Ai w B (dV v) cs->Ac w B v cs)-> ∀{ns:List Value} {off:Nat},Ah w B (dL l) ns->(∀j u,ns[j]? =some u->w.cell? ⟨g,off+j,none⟩=some u)->Ax w B l g off
 | [],_,_,_,_,_=>by simp[Ax]
 |v::r,ih,ns,off,h,hc=>by
  obtain⟨c1,c2,rfl,h1,h2⟩:=h;have hl:c1.length=6:=h1.len.1.trans (Cw v);simp only[Ax];refine⟨⟨c1,ih v (by simp) c1 h1,fun j u hu=>hc j u (by rw[List.getElem?_append_left (List.getElem?_eq_some_iff.1 hu).1];exact hu)⟩,Ah.toL (fun x hx=>ih x (by simp[hx])) h2 (fun j u hu=> ?_)⟩;rw[show off+6+j=off+(6+j)from by omega];refine hc (6+j) u ?_;rw[List.getElem?_append_right (by omega),hl,show 6+j - 6=j from by omega];exact hu
theorem Ah.toO {w:World} {B:Nat} {g:Nat}: ∀{l:List (ByteArray×Val)},(∀m ∈ l,∀cs,Ai w B (dV m.2) cs->Ac w B m.2 cs)-> ∀{ns:List Value} {off:Nat},Ah w B (dO l) ns->(∀j u,ns[j]? =some u->w.cell? ⟨g,off+j,none⟩=some u)->A4 w B l g off
 | [],_,_,_,_,_=>by simp[A4]
 |(key,v)::r,ih,ns,off,h,hc=>by
  obtain⟨c1,c2,rfl,h1,h2⟩:=h;obtain⟨_,c3,rfl,⟨rfl,_⟩,cv,c4,rfl,h3,rfl⟩:=h1;have hl:cv.length=6:=h3.len.1.trans (Cw v);simp only[A4,Ma];refine⟨⟨by have:=hc 0 (.string key) rfl;simpa using this,cv,ih (key,v) (by simp) cv h3,fun j u hu=> ?_⟩,Ah.toO (fun x hx=>ih x (by simp[hx])) h2 (fun j u hu=> ?_)⟩
  . have h5:=(List.getElem?_eq_some_iff.1 hu).1;rw[show off+1+j=off+(j+1)from by omega];refine hc (j+1) u ?_;simp only[List.append_nil,List.cons_append,List.nil_append,List.getElem?_cons_succ];rw[List.getElem?_append_left h5];exact hu
  . rw[show off+7+j=off+(6+j+1)from by omega];refine hc (6+j+1) u ?_;simp only[List.append_nil,List.cons_append,List.nil_append,List.getElem?_cons_succ];rw[List.getElem?_append_right (by omega),hl,show 6+j - 6=j from by omega];exact hu
theorem Co {w:World} {B:Nat}: ∀(v:Val) cs,Ai w B (dV v) cs->Ac w B v cs:=by
 refine Val.ind ?_;intro k b n t l o hl ho cs h;simp only[dV,Ai]at h;obtain⟨c4,c5,rfl,_,_,_,_,⟨a4,n4,rfl,_,ns4,h4,i4⟩,⟨a5,n5,rfl,_,ns5,h5,i5⟩⟩:=Ah.six.1 h;simp only[Ac];refine⟨a4,n4,a5,n5,by simp[Fb,Gh,Dg], ?_, ?_⟩
 . rcases i4 with e|⟨g,off,e,hg,hc⟩
   . refine .inl ?_
     cases l with
     |nil=>rfl
     |cons x r=>simp[dL]at e
   . exact .inr ⟨g,off,e,hg,Ah.toL hl h4 hc⟩
 . rcases i5 with e|⟨g,off,e,hg,hc⟩
   . refine .inl ?_
     cases o with
     |nil=>rfl
     |cons x r=>simp[dO]at e
   . exact .inr ⟨g,off,e,hg,Ah.toO ho h5 hc⟩
theorem Ah.ofL {w:World} {B:Nat} {g:Nat}: ∀{l:List Val},(∀v ∈ l,∀cs,Ac w B v cs->Ai w B (dV v) cs)-> ∀{off:Nat},Ax w B l g off-> ∃ns,Ah w B (dL l) ns/\ ∀j u,ns[j]? =some u->w.cell? ⟨g,off+j,none⟩=some u
 | [],_,_,_=>⟨[],rfl,fun j u h=>by simp at h⟩
 |v::r,ih,off,h=>by
  simp only[Ax]at h;obtain⟨⟨cs,h1,hc⟩,h2⟩:=h;have h1':=ih v (by simp) cs h1;have hl:cs.length=6:=h1'.len.1.trans (Cw v);obtain⟨ns,h3,h4⟩:=Ah.ofL (fun x hx=>ih x (by simp[hx])) h2;refine⟨cs++ns,⟨cs,ns,rfl,h1',h3⟩,fun j u hu=> ?_⟩;by_cases hj:j<6
  . rw[List.getElem?_append_left (by omega)]at hu;exact hc j u hu
  . rw[List.getElem?_append_right (by omega),hl]at hu;have:=h4 (j - 6) u hu
    rwa [show off+6+(j - 6)=off+j from by omega]at this
theorem Ah.ofO {w:World} {B:Nat} {g:Nat}: ∀{l:List (ByteArray×Val)},(∀m ∈ l,∀cs,Ac w B m.2 cs->Ai w B (dV m.2) cs)-> ∀{off:Nat},A4 w B l g off-> ∃ns,Ah w B (dO l) ns/\ ∀j u,ns[j]? =some u->w.cell? ⟨g,off+j,none⟩=some u
 | [],_,_,_=>⟨[],rfl,fun j u h=>by simp at h⟩
 |(key,v)::r,ih,off,h=>by
  simp only[A4,Ma]at h;obtain⟨⟨h0,cs,h1,hc⟩,h2⟩:=h;have h1':=ih (key,v) (by simp) cs h1;have hl:cs.length=6:=h1'.len.1.trans (Cw v);obtain⟨ns,h3,h4⟩:=Ah.ofO (fun x hx=>ih x (by simp[hx])) h2;refine⟨(.string key::cs)++ns,⟨.string key::cs,ns,rfl,⟨[.string key],cs,rfl,⟨rfl,rfl⟩,cs, [],by simp,h1',rfl⟩,h3⟩,fun j u hu=> ?_⟩
  match j,hu with
  |0,hu=>
   simp at hu;subst hu;exact h0
  |j+1,hu=>
   simp only[List.cons_append,List.getElem?_cons_succ]at hu;by_cases hj:j<6
   . rw[List.getElem?_append_left (by omega)]at hu;have:=hc j u hu
     rwa [show off+1+j=off+(j+1)from by omega]at this
   . rw[List.getElem?_append_right (by omega),hl]at hu;have:=h4 (j - 6) u hu
     rwa [show off+7+(j - 6)=off+(j+1)from by omega]at this
theorem Eo {w:World} {B:Nat}: ∀(v:Val) cs,Ac w B v cs->Ai w B (dV v) cs:=by
 refine Val.ind ?_;intro k b n t l o hl ho cs h;simp only[Ac]at h;obtain⟨la,lc,oa,oc,rfl,h1,h2⟩:=h;simp only[dV,Ai];refine Ah.six.2 ⟨[.slice la l.length lc], [.slice oa o.length oc],rfl,rfl,rfl,rfl,rfl, ?_, ?_⟩
 . rcases h1 with rfl|⟨g,off,e,hg,h1⟩
   . exact⟨la,lc,rfl,X4 _, [],rfl,.inl rfl⟩
   . obtain⟨ns,h3,h4⟩:=Ah.ofL hl h1;exact⟨la,lc,by rw[Gh],X4 _,ns,h3,.inr ⟨g,off,e,hg,h4⟩⟩
 . rcases h2 with rfl|⟨g,off,e,hg,h2⟩
   . exact⟨oa,oc,rfl,Cu _, [],rfl,.inl rfl⟩
   . obtain⟨ns,h3,h4⟩:=Ah.ofO ho h2;exact⟨oa,oc,by rw[Dg],Cu _,ns,h3,.inr ⟨g,off,e,hg,h4⟩⟩
inductive Rd (α:Type) where
 |ok (a:α) (q:Nat)
 |bad (e:Int) (q:Nat)
def I9 (c:UInt8):Bool:=c==9||c==10||c==13||c==32
def blanks:List UInt8->Nat
 | []=>0
 |c::r=>if I9 c=true then blanks r+1 else 0
def Ay (s:List UInt8) (p:Nat):Nat:=p+blanks (s.drop p)
theorem Ui: ∀l:List UInt8,blanks l<=l.length
 | []=>Nat.le_refl _
 |c::r=>by
  unfold blanks
  split
  . have:=Ui r;simp only[List.length_cons];omega
  . exact Nat.zero_le _
theorem C7 (s:List UInt8) (p:Nat):p<=Ay s p:=Nat.le_add_right _ _
theorem Ft {s:List UInt8} {p:Nat} (h:p<=s.length):Ay s p<=s.length:=by
 have:=Ui (s.drop p);rw[List.length_drop]at this;unfold Ay;omega
theorem I7 {s:List UInt8} {p:Nat} {c:UInt8} (h:s[p]? =some c):s.drop p=c::s.drop (p+1):=by
 obtain⟨hlt,rfl⟩:=List.getElem?_eq_some_iff.1 h;exact List.drop_eq_getElem_cons hlt
theorem Va {s:List UInt8} {p:Nat} {c:UInt8} (h:s[p]? =some c) (hb:I9 c=true):Ay s p=Ay s (p+1):=by
 unfold Ay;rw[I7 h,blanks,if_pos hb];omega
theorem Vb {s:List UInt8} {p:Nat} {c:UInt8} (h:s[p]? =some c) (hb:I9 c=false):Ay s p=p:=by
 unfold Ay;rw[I7 h,blanks,if_neg (by rw[hb];decide)];rfl
theorem Zd {s:List UInt8} {p:Nat} (h:s.length<=p):Ay s p=p:=by
 unfold Ay;rw[List.drop_eq_nil_of_le h];rfl
theorem Ait (s:List UInt8) (p:Nat): ∀c,s[Ay s p]? =some c->I9 c=false:=by
 unfold Ay;have key: ∀(l:List UInt8) c,l[blanks l]? =some c->I9 c=false:=by
  intro l
  induction l with
  |nil=>intro c h;simp at h
  |cons x r ih=>
   intro c h;unfold blanks at h
   split at h
   . rename_i hb;rw[List.getElem?_cons_succ]at h;exact ih c h
   . rename_i hb;simp only[List.getElem?_cons_zero,Option.some.injEq]at h;subst h;simpa using hb
 intro c h;exact key (s.drop p) c (by rw[List.getElem?_drop];exact h)
theorem G8 (s:List UInt8) (p:Nat):Ay s (Ay s p)=Ay s p:=by
 cases e:s[Ay s p]? with
 |none=>exact Zd (by simpa using e)
 |some c=>exact Vb e (Ait s p c e)
def G6 (c:UInt8):Bool:=decide (48<=c.toNat/\c.toNat<=57)
def V7:List UInt8->Nat
 | []=>0
 |c::r=>if G6 c=true then V7 r+1 else 0
theorem Acz: ∀l:List UInt8,V7 l<=l.length
 | []=>Nat.le_refl _
 |c::r=>by
  unfold V7
  split
  . have:=Acz r;simp only[List.length_cons];omega
  . exact Nat.zero_le _
def Dc (s:List UInt8) (p:Nat):Nat:=p+V7 (s.drop p)
theorem Us (s:List UInt8) (p:Nat):p<=Dc s p:=Nat.le_add_right _ _
theorem Ut {s:List UInt8} {p:Nat} (h:p<=s.length):Dc s p<=s.length:=by
 have:=Acz (s.drop p);rw[List.length_drop]at this;unfold Dc;omega
theorem X6 {s:List UInt8} {p:Nat} {c:UInt8} (h:s[p]? =some c) (hb:G6 c=true):Dc s p=Dc s (p+1):=by
 unfold Dc;rw[I7 h,V7,if_pos hb];omega
theorem X7 {s:List UInt8} {p:Nat} {c:UInt8} (h:s[p]? =some c) (hb:G6 c=false):Dc s p=p:=by
 unfold Dc;rw[I7 h,V7,if_neg (by rw[hb];decide)];rfl
theorem Aa1 {s:List UInt8} {p:Nat} (h:s.length<=p):Dc s p=p:=by
 unfold Dc;rw[List.drop_eq_nil_of_le h];rfl
theorem R5 (s:List UInt8) (p:Nat): ∀i c,p<=i->i<Dc s p->s[i]? =some c->G6 c=true:=by
 have key: ∀(l:List UInt8) i c,i<V7 l->l[i]? =some c->G6 c=true:=by
  intro l
  induction l with
  |nil=>intro i c h;simp[V7]at h
  |cons x r ih=>
   intro i c h hc;unfold V7 at h
   split at h
   . rename_i hb
     cases i with
     |zero=>simp only[List.getElem?_cons_zero,Option.some.injEq]at hc;subst hc;exact hb
     |succ i=>rw[List.getElem?_cons_succ]at hc;exact ih i c (by omega) hc
   . omega
 intro i c h1 h2 hc;unfold Dc at h2;exact key (s.drop p) (i - p) c (by omega) (by rw[List.getElem?_drop,show p+(i - p)=i from by omega];exact hc)
def J6 (l:List UInt8):Nat:=l.foldl (fun a c=>a*10+(c.toNat - 48)) 0
def Iu (neg:Bool) (m p q:Nat):Rd Int:=
 if neg=true then(if m=0\/9223372036854775808<m then .bad 7 p else .ok (-(m:Int)) q)else if 9223372036854775807<m then .bad 7 p else .ok (m:Int) q
def Rq (s:List UInt8) (p f:Nat):Rd Int:=
 if Dc s f=f then .bad 4 f
 else if s[f]? =some 48/\f+1<Dc s f then .bad 4 (f+1)
 else Iu (decide (s[p]? =some 45)) (J6 ((s.drop f).take (Dc s f - f))) p (Dc s f)
def Gm (s:List UInt8) (p:Nat):Rd Int:=Rq s p (if s[p]? =some 45 then p+1 else p)
def Wf (c:UInt8):Option Nat:=
 if 48<=c.toNat/\c.toNat<=57 then some (c.toNat - 48)else if 97<=c.toNat/\c.toNat<=102 then some (c.toNat - 87)else if 65<=c.toNat/\c.toNat<=70 then some (c.toNat - 55)else none
def Se:List UInt8->Nat->Nat->Option Nat
 |_,0,n=>some n
 | [],_+1,_=>none
 |c::l,k+1,n=>match Wf c with
  |none=>none
  |some d=>Se l k (16*n+d)
def Ha (l:List UInt8):Option Nat:=if l.length<6\/l[0]? ≠some 92\/l[1]? ≠some 117 then none else Se (l.drop 2) 4 0
def Me (c:UInt8):Option Nat:=
 if c=34 then some 34 else if c=92 then some 92 else if c=47 then some 47 else if c=98 then some 8 else if c=102 then some 12 else if c=110 then some 10 else if c=114 then some 13 else if c=116 then some 9 else none
def Ju (r:Nat) (l:List UInt8):Rd Nat:=
 if r<55296\/57344<=r then .ok r 6
 else if 56320<=r then .bad 3 0
 else match Ha l with
  |none=> .bad 3 0
  |some m=>if m<56320\/57344<=m then .bad 3 0 else .ok (65536+1024*(r - 55296)+(m - 56320)) 12
def Wk (l:List UInt8):Rd Nat:=match l[1]? with
 |none=> .bad 4 0
 |some c=>match Me c with
  |none=> .bad 4 0
  |some r=> .ok r 2
def Lm (l:List UInt8):Rd Nat:=match Ha l with
 |some r=>Ju r (l.drop 6)
 |none=>Wk l
theorem Ac1 {c:UInt8} {d:Nat} (h:Wf c=some d):d<16:=by
 unfold Wf at h
 split at h
 . simp at h;omega
 split at h
 . simp at h;omega
 split at h
 . simp at h;omega
 . cases h
theorem Ac2: ∀(k:Nat) (l:List UInt8) (n r:Nat),Se l k n=some r->r<(n+1)*16 ^ k
 |0,l,n,r,h=>by
  have:n=r:=by cases l<;>simpa[Se]using h
  subst this;simp
 |k+1, [],n,r,h=>by simp[Se]at h
 |k+1,c::l,n,r,h=>by
  simp only[Se]at h
  cases hd:Wf c with
  |none=>rw[hd]at h;cases h
  |some d=>
   rw[hd]at h;have h1:=Ac2 k l _ r h;have h2:=Ac1 hd;have h3:(16*n+d+1)*16 ^ k<=((n+1)*16)*16 ^ k:=Nat.mul_le_mul_right _ (by omega);rw[Nat.pow_succ,Nat.mul_comm (16 ^ k) 16,<-Nat.mul_assoc];omega
theorem Pl {l:List UInt8} {r:Nat} (h:Ha l=some r):r<65536/\6<=l.length:=by
 unfold Ha at h
 split at h
 . cases h
 . rename_i hn;have:=Ac2 4 _ _ _ h;omega
theorem Rn {l:List UInt8} {r n:Nat} (h:Lm l=.ok r n):r<=1114111/\ ¬(55296<=r/\r<57344)/\2<=n/\n<=l.length:=by
 unfold Lm at h
 cases hu:Ha l with
 |some u=>
  rw[hu]at h;obtain⟨h1,h2⟩:=Pl hu;simp only[Ju]at h
  split at h
  . simp only[Rd.ok.injEq]at h;omega
  split at h
  . cases h
  cases hm:Ha (l.drop 6)with
  |none=>rw[hm]at h;cases h
  |some m=>
   rw[hm]at h;obtain⟨h3,h4⟩:=Pl hm;rw[List.length_drop]at h4;simp only at h
   split at h
   . cases h
   . simp only[Rd.ok.injEq]at h;omega
 |none=>
  rw[hu]at h;simp only[Wk]at h
  cases hc:l[1]? with
  |none=>rw[hc]at h;cases h
  |some c=>
   rw[hc]at h;have hl:=(List.getElem?_eq_some_iff.1 hc).1;simp only at h
   cases he:Me c with
   |none=>rw[he]at h;cases h
   |some x=>
    rw[he]at h;simp only[Rd.ok.injEq]at h;have:x<=92:=by
     unfold Me at he
     repeat' split at he
     all_goals first|(simp at he;omega)|cases he
    omega
def J3:Nat->List UInt8->Nat->List UInt8->Rd (List UInt8)
 |0,_,i,_=> .bad 4 i
 |f+1,s,i,out=>match s[i]? with
  |none=> .bad 4 i
  |some c=>
   if c=34 then .ok out (i+1)
   else if c.toNat<32 then .bad 4 i
   else if c=92 then(match Lm (s.drop i)with
    | .bad e _=> .bad e i
    | .ok r n=>J3 f s (i+n) (out++Lib.encodeRune (r:Int)))
   else if(Lib.decodeL (s.drop i)).1=65533/\(Lib.decodeL (s.drop i)).2=1 then .bad 3 i
   else J3 f s (i+(Lib.decodeL (s.drop i)).2) (out++(s.drop i).take (Lib.decodeL (s.drop i)).2)
def E8 (s:List UInt8) (p:Nat):Rd (List UInt8):=if s[p]? =some 34 then J3 (s.length - p) s (p+1) []else .bad 4 p
theorem Afw {s:List UInt8} {i:Nat} (h:i<s.length):i+(Lib.decodeL (s.drop i)).2<=s.length:=by
 have:=Lib.decodeL_le (s.drop i) (by intro e;have:=congrArg List.length e;rw[List.length_drop]at this;simp at this;omega);rw[List.length_drop]at this;omega
def Rd.within {α:Type} (p n:Nat):Rd α->Prop
 | .ok _ q=>p<q/\q<=n
 | .bad e q=>p<=q/\q<=n/\1<=e/\e<=18
theorem Q7: ∀(f:Nat) (s:List UInt8) (i:Nat) (out:List UInt8),i<=s.length->(J3 f s i out).within i s.length
 |0,s,i,out,h=>⟨Nat.le_refl _,h,by decide,by decide⟩
 |f+1,s,i,out,h=>by
  unfold J3
  cases hc:s[i]? with
  |none=>exact⟨Nat.le_refl _,h,by decide,by decide⟩
  |some c=>
   have hi:=(List.getElem?_eq_some_iff.1 hc).1;simp only;have step: ∀j o,i<j->j<=s.length->(J3 f s j o).within i s.length:=by
    intro j o h1 h2;have:=Q7 f s j o h2
    cases hr:J3 f s j o with
    |ok a q=>rw[hr]at this;exact⟨by have:=this.1;omega,this.2⟩
    |bad e q=>rw[hr]at this;exact⟨by have:=this.1;omega,this.2⟩
   split
   . exact⟨by omega,by omega⟩
   split
   . exact⟨Nat.le_refl _,h,by decide,by decide⟩
   split
   . cases he:Lm (s.drop i)with
     |bad e q=>
      refine⟨Nat.le_refl _,h, ?_⟩;unfold Lm Ju Wk at he
      repeat' split at he
      all_goals first|(simp only[Rd.bad.injEq]at he;omega)|cases he
     |ok r n=>
      have:=Rn he;rw[List.length_drop]at this;exact step _ _ (by omega) (by omega)
   split
   . exact⟨Nat.le_refl _,h,by decide,by decide⟩
   . exact step _ _ (by have:=Lib.decodeL_width (s.drop i);omega) (Afw hi)
theorem Ii {s:List UInt8} {p:Nat} (h:p<=s.length):(E8 s p).within p s.length:=by
 unfold E8
 split
 . rename_i hc;have hi:=(List.getElem?_eq_some_iff.1 hc).1;have:=Q7 (s.length - p) s (p+1) [] (by omega)
   cases hr:J3 (s.length - p) s (p+1) []with
   |ok a q=>rw[hr]at this;exact⟨by have:=this.1;omega,this.2⟩
   |bad e q=>rw[hr]at this;exact⟨by have:=this.1;omega,this.2⟩
 . exact⟨Nat.le_refl _,h,by decide,by decide⟩
theorem L2 {s:List UInt8} {p:Nat} (h:p<s.length):(Gm s p).within p s.length:=by
 have hf:p<=(if s[p]? =some 45 then p+1 else p)/\(if s[p]? =some 45 then p+1 else p)<=s.length:=by split<;>omega
 have h1:=Us s (if s[p]? =some 45 then p+1 else p);have h2:=Ut hf.2;unfold Gm;generalize (if s[p]? =some 45 then p+1 else p)=F at hf h1 h2 ⊢;unfold Rq Iu;generalize Dc s F=Q at h1 h2 ⊢
 repeat' split
 all_goals(unfold Rd.within;simp only;omega)
theorem Em {s:List UInt8} {p:Nat} {c:UInt8} (h:s[p]? =some c):p<s.length:=(List.getElem?_eq_some_iff.1 h).1
theorem Vy (a:Addr) (n:Nat):(a.add n).block=a.block:=by unfold Addr.add;split<;>rfl
def B5 (w:World) (B size:Nat) (A:Option Addr) (n:Nat) (xs:List Value):Prop:=
 xs.length=n*size/\(0<n-> ∃ad,A=some ad/\ad.block<B/\ ∀j u,xs[j]? =some u->w.cell? (ad.add j)=some u)
section
variable {w w':World} {B B' size n:Nat} {A:Option Addr} {xs:List Value}
theorem B5.at_ {k:Nat} (h:B5 w B 1 A n xs) (hk:k<n): ∃ad u,A=some ad/\ad.block<B/\xs[k]? =some u/\w.cell? (ad.add k)=some u:=by
 obtain⟨ad,e,hb,hc⟩:=h.2 (by omega);have hl:k<xs.length:=by have:=h.1;omega
 exact⟨ad,xs[k],e,hb,List.getElem?_eq_getElem hl,hc k _ (List.getElem?_eq_getElem hl)⟩
theorem B5.keep (h:B5 w B size A n xs) (hk: ∀p:Addr,p.block<B->w'.cell? p=w.cell? p):B5 w' B size A n xs:=
 ⟨h.1,fun hn=>by
   obtain⟨ad,e,hb,hc⟩:=h.2 hn;exact⟨ad,e,hb,fun j u hu=>(hk _ (by rw[Vy];exact hb)).trans (hc j u hu)⟩⟩
theorem B5.more (h:B5 w B size A n xs) (hB:B<=B'):B5 w B' size A n xs:=
 ⟨h.1,fun hn=>by
   obtain⟨ad,e,hb,hc⟩:=h.2 hn;exact⟨ad,e,by omega,hc⟩⟩
theorem B5.below (h:B5 w B size A n xs) (hb:Below B w w'):B5 w' B size A n xs:=h.keep fun _ hp=>hb.cell hp
theorem B5.drew (h:B5 w B size A n xs):B5 w.drew B size A n xs:=h
theorem B5.drewN (h:B5 w B size A n xs) (k:Nat):B5 (w.drewN k) B size A n xs:=h
theorem B5.alloc (h:B5 w B size A n xs) (hB:B<=w.heap.size) (o:Obj):B5 (w.alloc o) B size A n xs:=h.keep fun p hp=>World.cell?_alloc_lt w o p (by omega)
theorem B5.setCell (h:B5 w B size A n xs) {p:Addr} (hB:B<=p.block) (u:Value):B5 (w.setCell p u) B size A n xs:=
 h.keep fun q hq=>World.cell?_setCell_other w p q u (fun e=>by subst e;omega)
theorem B5.grown (h:B5 w B size A n xs) {row:Option Nat} (hg:w.grownBy w' row) (hB:B<=w.heap.size) (hr: ∀g,row=some g->B<=g):B5 w' B size A n xs:=
 h.keep fun p hp=>World.cell?_of_block (hg.block p.block (by omega) (fun e=>by have:=hr _ e.symm;omega))
end
def Aj (w:World) (g:Nat) (t:TypeId) (cs:Array Value):Prop:=w.heap[g]? =some (.cells cs t (0,0))
section
variable {w w':World} {g:Nat} {t:TypeId} {cs:Array Value}
theorem Aj.lt (h:Aj w g t cs):g<w.heap.size:=by
 rcases Nat.lt_or_ge g w.heap.size with hlt|hge
 . exact hlt
 . unfold Aj at h;rw[Array.getElem?_eq_none hge]at h;cases h
theorem Aj.cell (h:Aj w g t cs) (i:Nat):w.cell? ⟨g,i,none⟩=cs[i]? :=cell_of_row w g i cs t (0,0) h
theorem Aj.frozen (h:Aj w g t cs) (i:Nat):w.frozen? ⟨g,i,none⟩=false:=by
 unfold Aj at h;simp[World.frozen?,h]
theorem Aj.new (w:World) (t:TypeId) (cs:Array Value):Aj (w.alloc (.cells cs t)) w.heap.size t cs:=heap_alloc_new w _
theorem Aj.drew (h:Aj w g t cs):Aj w.drew g t cs:=h
theorem Aj.drewN (h:Aj w g t cs) (n:Nat):Aj (w.drewN n) g t cs:=h
theorem Aj.alloc (h:Aj w g t cs) (o:Obj):Aj (w.alloc o) g t cs:=(Below.heap_alloc w o g h.lt).trans h
theorem Aj.set_ (h:Aj w g t cs) (i:Nat) (u:Value):Aj (w.setCell ⟨g,i,none⟩ u) g t (cs.setIfInBounds i u):=by
 unfold Aj at h ⊢;simp[World.setCell,Array.getElem?_modify,h]
theorem Aj.far (h:Aj w g t cs) {p:Addr} (hp:g≠p.block) (u:Value):Aj (w.setCell p u) g t cs:=(Below.heap_setCell w p u g hp).trans h
theorem Aj.below {B:Nat} (h:Aj w g t cs) (hb:Below B w w') (hg:g<B):Aj w' g t cs:=(hb.block g hg).trans h
theorem Aj.grown {row:Option Nat} (h:Aj w g t cs) (hb:w.grownBy w' row) (hg:some g≠row):Aj w' g t cs:=(hb.block g h.lt hg).trans h
end
section
variable {P:Program} (w:World)
theorem Pd (base:Nat) (t ty e:TypeId) (i:TypeInfo) (size:Nat) (ht:P.underlying t=some (.slice e)) (hi:P.info? e=some i)
 (v:Value) (n:Nat) (xs:List Value) (hown:w.ownsRow base e size v n xs) (c:Nat):(Builtin.append_ #[t,t] ty #[v,.slice none 0 c]).run P w=.ok v w:=by
 rcases hown.2 with⟨rfl,rfl⟩|⟨g,cap,cur,rfl,_,_,hnc,_⟩
 . simp[Builtin.append_,run_underlying ht,sizeOf,typeInfo,hi,Builtin.lenOf,Builtin.firstCells]
 . simp[Builtin.append_,run_underlying ht,sizeOf,typeInfo,hi,Builtin.lenOf,Builtin.firstCells,hnc,storeCells]
theorem Ig (base:Nat) (t ty e:TypeId) (i:TypeInfo) (z:Value) (size bytes:Nat) (ht:P.underlying t=some (.slice e)) (hi:P.info? e=some i) (hz:i.zero=some z)
 (hsize:i.size=size) (hby:i.bytes=bytes) (hzs:z.cells.size=size) (hsz:0<size)
 (v:Value) (n:Nat) (xs:List Value) (hown:w.ownsRow base e size v n xs)
 (B:Nat) (A:Option Addr) (m c:Nat) (news:List Value) (hr:B5 w B size A m news) (h1: ∀u ∈ news,u.oneCell'=true)
 (h63:n+m<=maxLen) (hbytes:(n+m)*bytes<=140737488355328) (hbase:base<=w.heap.size):
 ∃v' w',(Builtin.append_ #[t,t] ty #[v,.slice A m c]).run P w=.ok v' w'/\w'.ownsRow base e size v' (n+m) (xs++news)/\w.grownBy w' v.ownBlock/\
  (v'.ownBlock=v.ownBlock\/v'.ownBlock=some w.heap.size):=by
 rcases A with _|ad
 . have hm:m=0:=by
    rcases Nat.eq_zero_or_pos m with h0|h0
    . exact h0
    . obtain⟨ad,h,_⟩:=hr.2 h0
      cases h
   subst hm;have hn:news= []:=List.eq_nil_of_length_eq_zero (by simpa using hr.1);subst hn;exact⟨v,w,Pd w base t ty e i size ht hi v n xs hown c,by simpa using hown,World.grownBy.refl w _,.inl rfl⟩
 . have hcells: ∀j u,news[j]? =some u->w.cell? (ad.add j)=some u:=by
    intro j u hu;rcases Nat.eq_zero_or_pos m with h0|h0
    . subst h0;have hn:news= []:=List.eq_nil_of_length_eq_zero (by simpa using hr.1);subst hn;simp at hu
    . obtain⟨ad',h,_,hc⟩:=hr.2 h0
      injection h with h
      subst h;exact hc j u hu
   obtain⟨v',w',hrun,h2,h3,_,h5⟩:=run_append_own_at (P:=P) w base t ty e i z size bytes ht hi hz hsize hby hzs hsz v n xs hown ad m c news hr.1 hcells h1 h63 hbytes hbase;exact⟨v',w',hrun,h2,h3,h5⟩
end
structure MKey {α:Type} [DecidableEq α] (P:Program) (kt:TypeId) (f:α->Value):Prop where
 under: ∃d,P.underlying kt=some d/\ ∀a b,Instr.sameNow d (f a) (f b)=some (decide (a=b))
 check: ∀e w a,(Instr.checkKey e 10000 kt (f a)).run P w=.ok () w
theorem Aas (a b:ByteArray):(a==b)=decide (a=b):=by
 obtain⟨a⟩:=a;obtain⟨b⟩:=b;have h:((⟨a⟩:ByteArray)==⟨b⟩)=(a==b):=rfl;rw[h];by_cases e:a=b<;>simp[e]
theorem Qs {P:Program} {kt:TypeId} (h:P.underlying kt=some .string):MKey P kt Value.string:=by
 refine⟨⟨_,h,fun a b=> ?_⟩,fun e w a=> ?_⟩
 . simp only[Instr.sameNow]
   congr 1
   exact Aas a b
 . have key: ∀n,(Instr.checkKey e (n+1) kt (.string a)).run P w=.ok () w:=fun n=>by simp[Instr.checkKey,run_underlying h]
   exact key 9999
theorem Agr {P:Program} {kt:TypeId} {q:IntKind} (h:P.underlying kt=some (.int q)):MKey P kt (Value.int q):=by
 refine⟨⟨_,h,fun a b=> ?_⟩,fun e w a=> ?_⟩
 . simp only[Instr.sameNow,if_true]
   congr 1
 . have key: ∀n,(Instr.checkKey e (n+1) kt (.int q a)).run P w=.ok () w:=fun n=>by simp[Instr.checkKey,run_underlying h]
   exact key 9999
section
variable {α:Type}
def Kk (f:α->Value):List (α×Value)->Nat->List MapEntry
 | [],_=> []
 |(k,v)::r,i=>{key:=f k,val:=v,born:=i}::Kk f r (i+1)
def Ci (f:α->Value) (w:World) (g:Nat) (kv:List (α×Value)):Prop:=w.heap[g]? =some (.map (Kk f kv 0).toArray kv.length)
def C4 [DecidableEq α] (a:α):List (α×Value)->Option Value
 | []=>none
 |(k,v)::r=>if a=k then some v else C4 a r
variable {f:α->Value} {P:Program} {kt et t:TypeId} {w w':World} {g:Nat} {kv:List (α×Value)}
theorem O3: ∀(kv:List (α×Value)) (i:Nat) (k:α) (v:Value),Kk f (kv++ [(k,v)]) i=Kk f kv i++ [{key:=f k,val:=v,born:=i+kv.length}]
 | [],i,k,v=>by simp[Kk]
 |(a,b)::r,i,k,v=>by
  simp only[List.cons_append,Kk,O3 r,List.length_cons];rw[show i+1+r.length=i+(r.length+1)from by omega]
theorem Ci.lt (h:Ci f w g kv):g<w.heap.size:=by
 rcases Nat.lt_or_ge g w.heap.size with h1|h1
 . exact h1
 . unfold Ci at h;rw[Array.getElem?_eq_none h1]at h;cases h
theorem Ci.keep (h:Ci f w g kv) (hk:w'.heap[g]? =w.heap[g]?):Ci f w' g kv:=hk.trans h
theorem Ci.below {B:Nat} (h:Ci f w g kv) (hb:Below B w w') (hg:g<B):Ci f w' g kv:=(hb.block g hg).trans h
theorem Ci.alloc (h:Ci f w g kv) (o:Obj):Ci f (w.alloc o) g kv:=(Below.heap_alloc w o g h.lt).trans h
theorem Ci.new (w:World):Ci f (w.alloc (.map #[] 0)) w.heap.size []:=heap_alloc_new w _
theorem Ci.setCell (h:Ci f w g kv) {p:Addr} (hp:g≠p.block) (u:Value):Ci f (w.setCell p u) g kv:=(Below.heap_setCell w p u g hp).trans h
variable [DecidableEq α]
theorem Pz {d:TypeDesc} (hd: ∀a b,Instr.sameNow d (f a) (f b)=some (decide (a=b))) (a:α): ∀(kv:List (α×Value)) (i j:Nat),∃q,Instr.findNow d (f a) (Kk f kv i) j=some q/\q.map (·.2)=C4 a kv
 | [],_,_=>⟨none,rfl,rfl⟩
 |(k,v)::r,i,j=>by
  by_cases h:a=k
  . exact⟨some (j,v),by simp[Kk,Instr.findNow,hd,h],by simp[C4,h]⟩
  . obtain⟨q,h1,h2⟩:=Pz hd a r (i+1) (j+1);exact⟨q,by simp[Kk,Instr.findNow,hd,h,h1],by rw[h2];simp[C4,h]⟩
theorem Mp (K:MKey P kt f) (ht:P.underlying t=some (.map kt et)) (h:Ci f w g kv) {a:α} (hn:C4 a kv=none) (v:Value):
 ∃w',(Instr.mapUpdate t (.map (some g)) (f a) v).run P w=.ok () w'/\Ci f w' g (kv++ [(a,v)])/\w.grownBy w' (some g)/\w'.heap.size=w.heap.size:=by
 obtain⟨d,hd,hs⟩:=K.under;obtain⟨q,h1,h2⟩:=Pz hs a kv 0 0;rw[hn]at h2;have hq:q=none:=by cases q<;>simp_all
 subst hq;have hck:=K.check false w a;have hfk:(Instr.findKey kt (f a) (Kk f kv 0)).run P w=.ok none w:=by simp[Instr.findKey,Sem.run_bind,run_underlying hd,h1]
 have hlt:=h.lt;refine⟨{w with heap:=w.heap.setIfInBounds g (.map ((Kk f kv 0).toArray.push {key:=f a,val:=v,born:=kv.length}) (kv.length+1))}, ?_, ?_, ?_, ?_⟩
 . have hb:w.heap[g]? =some (.map (Kk f kv 0).toArray kv.length):=h;unfold Instr.mapUpdate;simp only[Sem.run_bind,run_underlying ht,Result.andThen,getObj,Sem.run,hb,hck,hfk,setObj]
 . unfold Ci;simp[hlt,O3]
 . exact⟨rfl,rfl,rfl,by simp,fun k hk hne=>by simp only[Array.getElem?_setIfInBounds];rw[if_neg];rintro rfl;exact hne rfl⟩
 . simp
theorem Bh {ops:Array Oper} {rest:List Oper} {o:Oper} {a:Act} {Q:Exit->Act->World->Prop} (hg:o.guard=none) (m x u:Operand) (t:TypeId) (hop:o.op=Op.insert t m x u)
 (K:MKey P kt f) (ht:P.underlying t=some (.map kt et)) (hm:a.eval m=.map (some g)) (h:Ci f w g kv) {k:α} {v:Value} (hx:a.eval x=f k) (hv:a.eval u=v) (hn:C4 k kv=none)
 (hK: ∀w',Ci f w' g (kv++ [(k,v)])->w.grownBy w' (some g)->w'.heap.size=w.heap.size->wpList P ops Q rest (a.put o.dst undef) w'):wpList P ops Q (o::rest) a w:=by
 refine wpList_plain hg fun K' hK'=> ?_;obtain⟨w',hrun,r1,r2,r3⟩:=Mp K ht h hn v;unfold Oper.wp;simp[execOp,hop,hm,hx,hv,hrun,Result.andThen];exact hK' _ _ (hK w' r1 r2 r3)
theorem Iv (K:MKey P kt f) (ht:P.underlying t=some (.map kt et)) (h:Ci f w g kv) (a:α) {z:Value} (hz: ∀w,(zeroValue et).run P w=.ok z w) (c:Bool):
 (Instr.lookup t (.map (some g)) (f a) c).run P w=.ok (if c then .tuple #[(C4 a kv).getD z,.bool (C4 a kv).isSome]else(C4 a kv).getD z) w:=by
 obtain⟨d,hd,hs⟩:=K.under;obtain⟨q,h1,h2⟩:=Pz hs a kv 0 0;have hck:=fun e=>K.check e w a;have hfk:(Instr.findKey kt (f a) (Kk f kv 0)).run P w=.ok q w:=by simp[Instr.findKey,Sem.run_bind,run_underlying hd,h1]
 have hb:w.heap[g]? =some (.map (Kk f kv 0).toArray kv.length):=h;unfold Instr.lookup;simp only[Sem.run_bind,run_underlying ht,Result.andThen,getObj,Sem.run,hb]
 cases q with
 |none=>
  have:C4 a kv=none:=by cases hq:C4 a kv<;>simp_all
  rw[this]
  cases c<;>simp[hck,hfk,hz w,Result.andThen]
 |some p=>
  obtain⟨i,v⟩:=p;have:C4 a kv=some v:=by rw[<-h2];rfl
  rw[this]
  cases c<;>simp[hck,hfk]
end
def Acy {α:Type} (P:Program) (gf:Nat) (lb:Array Value) (encs:α->Array Value) (xs:List α) (N:World->Prop):Prop:=
 ∀(n l:Nat) (J:List α->World->Prop) (Jx:World->Prop) (W:World),(∀s A B,J s A->Below A.heap.size A B->J s B)->(∀A B,Jx A->Below A.heap.size A B->Jx B)->(∀s A,J s A->N A)->
  (∀pre x rest A,xs=pre++x::rest->J pre A->YieldAt Fence.wide n P l (encs x) A fun e B=>(e=.returned (.bool true)/\J (pre++ [x]) B)\/(e=.returned (.bool false)/\Jx B))->
  J [] W->CallsIn Fence.wide (n+1) P gf (#[.func (.yield l) #[] #[]]++lb) W fun e B=>(∃v,e=.returned v)/\(J xs B\/Jx B)
def We (I Ix:World->Prop) (d:Nat) (W:World):Exit->Act->World->Prop
 | .normal,_,W'=>W'.heap[d]? =W.heap[d]? /\W'.heap[d+1]? =W.heap[d+1]? /\I W'
 | .ret,_,W'=>W'.heap[d]? =W.heap[d]? /\W'.heap[d+1]? =W.heap[d+1]? /\Ix W'
 |_,_,_=>False
theorem Ud {α:Type} {P:Program} {g:Operand} {ps:Array Tmp} {assign body:Code} {Q:Exit->Act->World->Prop} {a:Act} {w:World} {n:Nat}
 {gf:Nat} {lb:Array Value} (hg:a.eval g=.func (.func gf) #[] lb) (eg: ∀args w,(callFunc gf args).run P w=.ok (.enter gf args) w)
 {encs:α->Array Value} {xs:List α} {N:World->Prop} (hit:Acy P gf lb encs xs N) (hps: ∀x,(encs x).size=ps.size)
 (I:List α->World->Prop) (Ix:World->Prop) (hIn: ∀s A B,I s A->Below A.heap.size A B->I s B) (hXn: ∀A B,Ix A->Below A.heap.size A B->Ix B)
 (hXp: ∀A k o o',Ix A->A.heap[k]? =some o->o.isCells=false->(k=w.heap.size\/k=w.heap.size+1)->Ix (A.putObj k o'))
 (hIp: ∀s A k o o',I s A->A.heap[k]? =some o->o.isCells=false->(k=w.heap.size\/k=w.heap.size+1)->I s (A.putObj k o'))
 (hIb: ∀s A,I s A->N A) (h0:I [] w) (a₁:α->Act)
 (hassign: ∀(l:Nat) (x:α) (W:World) (K:Act->World->Prop),K (a₁ x) W->
   assign.wpIn (Fence.wide.inRound l) n P (Exit.then K (fun _ _ _=>False)) {tmps:=(ps.zip (encs x)).foldl (fun t (p,v)=>t.setIfInBounds p v) a.tmps,defers:= []} W)
 (hbody: ∀(l:Nat) (pre:List α) (x:α) (rest:List α) (W:World),xs=pre++x::rest->I pre W->(∃ds,W.heap[w.heap.size]? =some (.deferred ds))->(∃r,W.heap[w.heap.size+1]? =some (.loop r))->
   body.wpIn (Fence.wide.inRound l) n P (We (I (pre++ [x])) Ix w.heap.size W) (a₁ x) W)
 (hstop: ∀(W:World),Ix W->W.heap[w.heap.size]? =some (.deferred (some []))->Code.ret.wpIn Fence.wide (n+1+1) P Q {a with defers:={target:=.collected w.heap.size,args:= #[]}::a.defers} W)
 (hdone: ∀(W:World),I xs W->W.heap[w.heap.size]? =some (.deferred (some []))->Q .normal {a with defers:={target:=.collected w.heap.size,args:= #[]}::a.defers} W):
 (Code.rangeFunc g ps assign body).wpIn Fence.wide (n+1+1) P Q a w:=by
 refine wpIn_rangeFunc ?_;intro fn hfn;have hro:Fence.wide.round=none:=rfl;rw[hro];obtain⟨rec,hrec⟩: ∃rec:LoopState->Option Code->Loop,rec=fun st pe=>{state:=st,pending:=pe,fn,tmps:=a.tmps,params:=ps,assign,body,defers:=w.heap.size}:=⟨_,rfl⟩;obtain⟨W1,hW1⟩: ∃W1,(w.alloc (.deferred (some []))).alloc (.loop (rec .ready none))=W1:=⟨_,rfl⟩;have hL1:W1.heap[w.heap.size+1]? =some (.loop (rec .ready none)):=by
  rw[<-hW1];have:=World.alloc_heap_new (w.alloc (.deferred (some []))) (.loop (rec .ready none));rwa [World.size_alloc]at this
 have hK1:W1.heap[w.heap.size]? =some (.deferred (some [])):=by
  rw[<-hW1];exact(Below.heap_alloc _ _ _ (by simp)).trans (World.alloc_heap_new w _)
 have hI1:I [] W1:=by
  rw[<-hW1];exact hIn _ _ _ h0 (((Below.refl _ w).alloc (Nat.le_refl _) _).alloc (by simp) _)
 refine⟨w.heap.size+1, [{target:=.collected w.heap.size,args:= #[]}],W1,{target:=.fn (.func gf) lb,args:= #[.func (.yield (w.heap.size+1)) #[] #[]]},W1,gf,
  #[.func (.yield (w.heap.size+1)) #[] #[]]++lb,W1, ?_, ?_, ?_, ?_,fun h=>by simp[Fence.wide]at h, ?_⟩
 . rw[<-hW1,hrec];exact run_enterLoop_outer _ _ _ _ _
 . simp only[resolve,hg];simp[go_sem]
 . intro f' _;trivial
 . simp[invoke,go_sem,eg]
 . refine(hit n (w.heap.size+1)
    (fun pre W=>I pre W/\W.heap[w.heap.size+1]? =some (.loop (rec .ready none))/\W.heap[w.heap.size]? =some (.deferred (some [])))
    (fun W=>Ix W/\W.heap[w.heap.size+1]? =some (.loop (rec .done (some .ret)))/\W.heap[w.heap.size]? =some (.deferred (some [])))
    W1 (fun s A B hs hb=>⟨hIn s A B hs.1 hb,(hb.block _ (Array.getElem?_eq_some_iff.1 hs.2.1).1).trans hs.2.1,(hb.block _ (Array.getElem?_eq_some_iff.1 hs.2.2).1).trans hs.2.2⟩)
    (fun A B hs hb=>⟨hXn A B hs.1 hb,(hb.block _ (Array.getElem?_eq_some_iff.1 hs.2.1).1).trans hs.2.1,(hb.block _ (Array.getElem?_eq_some_iff.1 hs.2.2).1).trans hs.2.2⟩)
    (fun s A hs=>hIb s A hs.1) ?_ ⟨hI1,hL1,hK1⟩).mono ?_
   ·
    rintro pre x rest W hx ⟨hi,hl,hk⟩;have hlt:w.heap.size+1<W.heap.size:=(Array.getElem?_eq_some_iff.1 hl).1;have hy:=run_yield (P:=P) (args:=encs x) hl (by rw[hrec];exact hps x);rw[hrec]at hy;refine⟨fn,_,assign,body,hy,roundIn_of_wpIn trivial (hassign _ x W _ ⟨_,run_beginRound hl (by rw[hrec]), ?_⟩)⟩;have hl2:(W.putObj (w.heap.size+1) (.loop {rec .ready none with state:=.busy})).heap[w.heap.size+1]? =some (.loop {rec .ready none with state:=.busy}):=World.putObj_heap_same hlt;have hk2:(W.putObj (w.heap.size+1) (.loop {rec .ready none with state:=.busy})).heap[w.heap.size]? =some (.deferred (some [])):=(World.putObj_heap_other (by omega)).trans hk;refine wpIn_mono (hbody _ pre x rest _ hx (hIp _ _ _ _ _ hi hl rfl (.inr rfl)) ⟨_,hk2⟩ ⟨_,hl2⟩) ?_;rintro e a3 W3 hp
    cases e with
    |normal=>
     obtain⟨h1,h2,hi3⟩:=hp;have hl3:=h2.trans hl2;have hk3:=h1.trans hk2;have hr:=run_endRound (P:=P) none hl3;rw[hrec]at hr;refine⟨_,_,hr,.inl ⟨rfl,hIp _ _ _ _ _ hi3 hl3 rfl (.inr rfl), ?_, ?_⟩⟩
     . rw[World.putObj_heap_same (Array.getElem?_eq_some_iff.1 hl3).1,hrec];rfl
     . exact(World.putObj_heap_other (by omega)).trans hk3
    |ret=>
     obtain⟨h1,h2,hi3⟩:=hp;have hl3:=h2.trans hl2;have hk3:=h1.trans hk2;have hr:=run_endRound (P:=P) (some .ret) hl3;rw[hrec]at hr;refine⟨_,_,hr,.inr ⟨rfl,hXp _ _ _ _ hi3 hl3 rfl (.inr rfl), ?_, ?_⟩⟩
     . rw[World.putObj_heap_same (Array.getElem?_eq_some_iff.1 hl3).1,hrec];rfl
     . exact(World.putObj_heap_other (by omega)).trans hk3
    |exit id=>exact hp.elim
    |goto t=>exact hp.elim
    |panic ch=>exact hp.elim
    |outgrown=>exact hp.elim
   ·
    rintro e W2 ⟨⟨v,rfl⟩,⟨hi,hl,hk⟩|⟨hi,hl,hk⟩⟩
    . exact⟨none,_,by have:=run_endLoop (P:=P) hl (by rw[hrec];simp);rw[hrec]at this;exact this,hdone _ (hIp _ _ _ _ _ hi hl rfl (.inr rfl)) ((World.putObj_heap_other (by omega)).trans hk)⟩
    . exact⟨some .ret,_,by have:=run_endLoop (P:=P) hl (by rw[hrec];simp);rw[hrec]at this;exact this,hstop _ (hXp _ _ _ _ hi hl rfl (.inr rfl)) ((World.putObj_heap_other (by omega)).trans hk)⟩
end Go.Proofs.YtobmaegpfbheoaaGreatDoor
