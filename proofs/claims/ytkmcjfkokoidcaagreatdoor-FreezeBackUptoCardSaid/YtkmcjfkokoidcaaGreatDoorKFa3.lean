/- Parts: A reader of values, byte by byte: blanks, numbers, quotes. Plain. No condition. -/
import Derived.WalkKit
import Derived.Below
import Derived.Test.YtkmcjfkokoidcaaGreatDoorProg
import Derived.Lib.MapLaws
import Derived.Lib.RuneBytes
namespace Go.Proofs.YtkmcjfkokoidcaaGreatDoor
open Go.RowKit
inductive D where
 |leaf (v:Value)
 |agg (l:List D)
 |row (s:Nat) (l:List D)
mutual
def D.cells:D->Nat
 | .leaf _=>1
 | .agg l=>L4 l
 | .row _ _=>1
def L4:List D->Nat
 | []=>0
 |d::r=>d.cells+L4 r
end
mutual
def Ag (w:World) (B:Nat):D->List Value->Prop
 | .leaf v,cs=>cs= [v]/\v.oneCell'=true
 | .agg l,cs=>Af w B l cs
 | .row s l,cs=> ∃a c,cs= [.slice a l.length c]/\(∀d ∈ l,d.cells=s)/\ ∃ns,Af w B l ns/\(l= []\/ ∃g off,a=some ⟨g,off,none⟩/\g<B/\ ∀j u,ns[j]? =some u->w.cell? ⟨g,off+j,none⟩=some u)
def Af (w:World) (B:Nat):List D->List Value->Prop
 | [],cs=>cs= []
 |d::r,cs=> ∃c1 c2,cs=c1++c2/\Ag w B d c1/\Af w B r c2
end
theorem D.ind {p:D->Prop} (h0: ∀v,p (.leaf v)) (h1: ∀l,(∀d ∈ l,p d)->p (.agg l)) (h2: ∀s l,(∀d ∈ l,p d)->p (.row s l)): ∀d,p d:=by
 intro d;refine D.rec (motive_1:=p) (motive_2:=fun l=> ∀d ∈ l,p d) h0 h1 h2 ?_ ?_ d
 . intro d hd
   cases hd
 . intro d r hd hr x hx;rcases List.mem_cons.1 hx with rfl|hx
   . exact hd
   . exact hr x hx
theorem Af.len_of {w:World} {B:Nat}: ∀{l:List D},(∀d ∈ l,∀cs,Ag w B d cs->cs.length=d.cells/\ ∀u ∈ cs,u.oneCell'=true)-> ∀{cs},Af w B l cs->cs.length=L4 l/\ ∀u ∈ cs,u.oneCell'=true
 | [],_,cs,h=>by
   have:cs= []:=h;subst this;exact⟨rfl,fun u hu=>by cases hu⟩
 |d::r,ih,cs,h=>by
  obtain⟨c1,c2,rfl,h1,h2⟩:=h;obtain⟨a1,a2⟩:=ih d (by simp) c1 h1;obtain⟨b1,b2⟩:=Af.len_of (fun x hx=>ih x (by simp[hx])) h2;refine⟨by simp only[List.length_append,L4,a1,b1],fun u hu=> ?_⟩;rcases List.mem_append.1 hu with hu|hu
  . exact a2 u hu
  . exact b2 u hu
theorem Ag.len {w:World} {B:Nat}: ∀{d:D} {cs},Ag w B d cs->cs.length=d.cells/\ ∀u ∈ cs,u.oneCell'=true:=by
 intro d;refine D.ind (p:=fun d=> ∀{cs},Ag w B d cs->cs.length=d.cells/\ ∀u ∈ cs,u.oneCell'=true) ?_ ?_ ?_ d
 . intro v cs h;obtain⟨rfl,hv⟩:=h;exact⟨rfl,fun u hu=>by simp at hu;rw[hu];exact hv⟩
 . intro l ih cs h;exact Af.len_of (fun d hd _=>ih d hd) h
 . intro s l _ cs h;obtain⟨a,c,rfl,_⟩:=h;exact⟨rfl,fun u hu=>by simp at hu;rw[hu];rfl⟩
theorem Af.len {w:World} {B:Nat} {l:List D} {cs:List Value} (h:Af w B l cs):cs.length=L4 l/\ ∀u ∈ cs,u.oneCell'=true:=Af.len_of (fun _ _ _ hd=>hd.len) h
theorem Fj {s:Nat}: ∀{l:List D},(∀d ∈ l,d.cells=s)->L4 l=l.length*s
 | [],_=>by simp[L4]
 |d::r,h=>by
  have h1:=h d (by simp);have h2:=Fj (l:=r) (fun x hx=>h x (by simp[hx]));simp only[L4,List.length_cons,Nat.add_mul,Nat.one_mul];omega
theorem Af.imp {w w':World} {B B':Nat}: ∀{l:List D},(∀d ∈ l,∀cs,Ag w B d cs->Ag w' B' d cs)-> ∀{cs},Af w B l cs->Af w' B' l cs
 | [],_,_,h=>h
 |d::r,ih,cs,h=>by
  obtain⟨c1,c2,e,h1,h2⟩:=h;exact⟨c1,c2,e,ih d (by simp) c1 h1,Af.imp (fun x hx=>ih x (by simp[hx])) h2⟩
theorem Ag.imp {w w':World} {B B':Nat} (hB:B<=B') (hk: ∀p:Addr,p.block<B->w'.cell? p=w.cell? p): ∀{d:D} {cs},Ag w B d cs->Ag w' B' d cs:=by
 intro d;refine D.ind (p:=fun d=> ∀{cs},Ag w B d cs->Ag w' B' d cs) ?_ ?_ ?_ d
 . intro v cs h;exact h
 . intro l ih cs h;exact Af.imp (fun d hd _=>ih d hd) h
 . intro s l ih cs h;obtain⟨a,c,e,hs,ns,h1,h2⟩:=h;refine⟨a,c,e,hs,ns,Af.imp (fun d hd _=>ih d hd) h1, ?_⟩;rcases h2 with h2|⟨g,off,ea,hg,hcell⟩
   . exact .inl h2
   . exact .inr ⟨g,off,ea,by omega,fun j u hu=>(hk _ hg).trans (hcell j u hu)⟩
theorem Ag.keep {w w':World} {B:Nat} {d:D} {cs:List Value} (h:Ag w B d cs) (hk: ∀p:Addr,p.block<B->w'.cell? p=w.cell? p):Ag w' B d cs:=h.imp (Nat.le_refl _) hk
theorem Ag.below {w w':World} {B:Nat} {d:D} {cs:List Value} (h:Ag w B d cs) (hb:Below B w w'):Ag w' B d cs:=h.keep fun _ hp=>hb.cell hp
theorem Ag.more {w:World} {B B':Nat} {d:D} {cs:List Value} (h:Ag w B d cs) (hB:B<=B'):Ag w B' d cs:=h.imp hB fun _ _=>rfl
theorem Af.keep {w w':World} {B:Nat} {l:List D} {cs:List Value} (h:Af w B l cs) (hk: ∀p:Addr,p.block<B->w'.cell? p=w.cell? p):Af w' B l cs:=Af.imp (fun _ _ _ hd=>hd.keep hk) h
theorem Af.below {w w':World} {B:Nat} {l:List D} {cs:List Value} (h:Af w B l cs) (hb:Below B w w'):Af w' B l cs:=h.keep fun _ hp=>hb.cell hp
theorem Af.more {w:World} {B B':Nat} {l:List D} {cs:List Value} (h:Af w B l cs) (hB:B<=B'):Af w B' l cs:=Af.imp (fun _ _ _ hd=>hd.more hB) h
theorem Ag.later {w w':World} {d:D} {cs:List Value} (h:Ag w w.heap.size d cs) (hb:Below w.heap.size w w'):Ag w' w'.heap.size d cs:=(h.below hb).more hb.size
theorem Af.later {w w':World} {l:List D} {cs:List Value} (h:Af w w.heap.size l cs) (hb:Below w.heap.size w w'):Af w' w'.heap.size l cs:=(h.below hb).more hb.size
theorem Af.app {w:World} {B:Nat}: ∀{a b:List D} {ns ms:List Value},Af w B a ns->Af w B b ms->Af w B (a++b) (ns++ms)
 | [],b,ns,ms,h,h'=>by
   have:ns= []:=h;subst this;exact h'
 |d::r,b,ns,ms,h,h'=>by
  obtain⟨c1,c2,rfl,h1,h2⟩:=h;exact⟨c1,c2++ms,by simp,h1,Af.app h2 h'⟩
theorem Af.one {w:World} {B:Nat} {d:D} {cs:List Value} (h:Ag w B d cs):Af w B [d] cs:=⟨cs, [],by simp,h,rfl⟩
theorem Af.snoc {w:World} {B:Nat} {l:List D} {d:D} {ns cs:List Value} (h:Af w B l ns) (hd:Ag w B d cs):Af w B (l++ [d]) (ns++cs):=h.app (Af.one hd)
theorem Af.split {w:World} {B s:Nat}: ∀{l:List D} {ns:List Value} (k:Nat),(∀d ∈ l,d.cells=s)->Af w B l ns->Af w B (l.take k) (ns.take (k*s))/\Af w B (l.drop k) (ns.drop (k*s))
 | [],ns,k,_,h=>by
   have:ns= []:=h;subst this;simp[Af]
 |d::r,ns,0,_,h=>by
  simp only[List.take_zero,Nat.zero_mul,List.drop_zero];exact⟨rfl,h⟩
 |d::r,ns,k+1,hs,h=>by
  obtain⟨c1,c2,rfl,h1,h2⟩:=h;obtain⟨a,b⟩:=Af.split k (fun x hx=>hs x (by simp[hx])) h2;have hl:c1.length=s:=h1.len.1.trans (hs d (by simp));have e1:(c1++c2).take ((k+1)*s)=c1++c2.take (k*s):=by
   rw[List.take_append,List.take_of_length_le (by rw[hl,Nat.add_mul];omega),hl,Nat.add_mul,Nat.one_mul,Nat.add_sub_cancel]
  have e2:(c1++c2).drop ((k+1)*s)=c2.drop (k*s):=by
   rw[List.drop_append,List.drop_eq_nil_of_le (by rw[hl,Nat.add_mul];omega),hl,Nat.add_mul,Nat.one_mul,Nat.add_sub_cancel,List.nil_append]
  rw[e1,e2];exact⟨⟨c1,c2.take (k*s),rfl,h1,a⟩,b⟩
theorem Af.at_ {w:World} {B s:Nat} {l:List D} {ns:List Value} (hs: ∀d ∈ l,d.cells=s) (h:Af w B l ns) {i:Nat} {d:D} (hi:l[i]? =some d):
 ∃cs,Ag w B d cs/\cs.length=s/\ ∀j u,cs[j]? =some u->ns[i*s+j]? =some u:=by
 obtain⟨_,h2⟩:=Af.split i hs h;obtain⟨hlt,rfl⟩:=List.getElem?_eq_some_iff.1 hi;rw[List.drop_eq_getElem_cons hlt]at h2;obtain⟨c1,c2,e,h3,_⟩:=h2;have hl:c1.length=s:=h3.len.1.trans (hs _ (List.getElem_mem hlt));refine⟨c1,h3,hl,fun j u hu=> ?_⟩;have h5:=(List.getElem?_eq_some_iff.1 hu).1;have h4:(ns.drop (i*s))[j]? =some u:=by
  rw[e,List.getElem?_append_left h5];exact hu
 rwa [List.getElem?_drop]at h4
theorem Ag.at_ {w:World} {B s:Nat} {l:List D} {a:Option Addr} {n c:Nat} (h:Ag w B (.row s l) [.slice a n c]) {i:Nat} {d:D} (hi:l[i]? =some d):
 ∃g off,a=some ⟨g,off,none⟩/\g<B/\ ∃cs,Ag w B d cs/\cs.length=s/\ ∀j u,cs[j]? =some u->w.cell? ⟨g,off+i*s+j,none⟩=some u:=by
 obtain⟨a',c',e,hs,ns,h1,h2⟩:=h;simp only[List.cons.injEq,Value.slice.injEq,and_true]at e;obtain⟨rfl,rfl,rfl⟩:=e;rcases h2 with rfl|⟨g,off,ea,hg,hcell⟩
 . simp at hi
 . obtain⟨cs,h3,h4,h5⟩:=h1.at_ hs hi;exact⟨g,off,ea,hg,cs,h3,h4,fun j u hu=>by rw[Nat.add_assoc];exact hcell _ u (h5 j u hu)⟩
theorem Ag.row_len {w:World} {B s:Nat} {l:List D} {a:Option Addr} {n c:Nat} (h:Ag w B (.row s l) [.slice a n c]):n=l.length:=by
 obtain⟨a',c',e,_⟩:=h;simp only[List.cons.injEq,Value.slice.injEq,and_true]at e;obtain⟨rfl,rfl,rfl⟩:=e;exact rfl
def Ch (b:Nat) (w':World) (d:D) (cs:List Value):Prop:=
 ∀w'':World,w'.heap.size<=w''.heap.size->(∀p:Addr,b<=p.block->p.block<w'.heap.size->w''.cell? p=w'.cell? p)->Ag w'' w'.heap.size d cs
def Ji (b:Nat) (w':World) (l:List D) (cs:List Value):Prop:=
 ∀w'':World,w'.heap.size<=w''.heap.size->(∀p:Addr,b<=p.block->p.block<w'.heap.size->w''.cell? p=w'.cell? p)->Af w'' w'.heap.size l cs
theorem Ch.now {b:Nat} {w':World} {d:D} {cs:List Value} (h:Ch b w' d cs):Ag w' w'.heap.size d cs:=h w' (Nat.le_refl _) fun _ _ _=>rfl
theorem Ji.now {b:Nat} {w':World} {l:List D} {cs:List Value} (h:Ji b w' l cs):Af w' w'.heap.size l cs:=h w' (Nat.le_refl _) fun _ _ _=>rfl
theorem Ji.nil (b:Nat) (w':World):Ji b w' [] []:=fun _ _ _=>rfl
theorem Ji.keep {b:Nat} {wr w':World} {l:List D} {ns:List Value} (h:Ji b wr l ns) (hs:wr.heap.size<=w'.heap.size) (hk: ∀p:Addr,b<=p.block->p.block<wr.heap.size->w'.cell? p=wr.cell? p):Ji b w' l ns:=
 fun w'' h1 h2=>Af.more (h w'' (Nat.le_trans hs h1) (fun p p1 p2=>(h2 p p1 (Nat.lt_of_lt_of_le p2 hs)).trans (hk p p1 p2))) hs
theorem Ch.keep {b b':Nat} {wr w':World} {d:D} {ns:List Value} (h:Ch b wr d ns) (hb:b'<=b) (hs:wr.heap.size<=w'.heap.size) (hk: ∀p:Addr,b<=p.block->p.block<wr.heap.size->w'.cell? p=wr.cell? p):Ch b' w' d ns:=
 fun w'' h1 h2=>Ag.more (h w'' (Nat.le_trans hs h1) (fun p p1 p2=>(h2 p (Nat.le_trans hb p1) (Nat.lt_of_lt_of_le p2 hs)).trans (hk p p1 p2))) hs
theorem Ch.later {b:Nat} {w w':World} {d:D} {ns:List Value} (h:Ch b w d ns) (hb:Below w.heap.size w w'):Ch b w' d ns:=h.keep (Nat.le_refl _) hb.size fun _ _ p2=>hb.cell p2
theorem Ji.later {b:Nat} {w w':World} {l:List D} {ns:List Value} (h:Ji b w l ns) (hb:Below w.heap.size w w'):Ji b w' l ns:=h.keep hb.size fun _ _ p2=>hb.cell p2
theorem Ji.row {b s:Nat} {w':World} {l:List D} {ns:List Value} {a:Option Addr} {c:Nat} (h:Ji b w' l ns) (hs: ∀d ∈ l,d.cells=s)
 (ha:l= []\/ ∃g off,a=some ⟨g,off,none⟩/\b<=g/\g<w'.heap.size/\ ∀j u,ns[j]? =some u->w'.cell? ⟨g,off+j,none⟩=some u):Ch b w' (.row s l) [.slice a l.length c]:=by
 intro w'' h1 h2;refine⟨a,c,rfl,hs,ns,h w'' h1 h2, ?_⟩;rcases ha with ha|⟨g,off,e,hbg,hg,hcell⟩
 . exact .inl ha
 . exact .inr ⟨g,off,e,hg,fun j u hu=>(h2 _ hbg hg).trans (hcell j u hu)⟩
inductive Rd (α:Type) where
 |ok (a:α) (q:Nat)
 |bad (e:Int) (q:Nat)
def Fw (c:UInt8):Bool:=c==9||c==10||c==13||c==32
def blanks:List UInt8->Nat
 | []=>0
 |c::r=>if Fw c=true then blanks r+1 else 0
def Aq (s:List UInt8) (p:Nat):Nat:=p+blanks (s.drop p)
theorem Wn: ∀l:List UInt8,blanks l<=l.length
 | []=>Nat.le_refl _
 |c::r=>by
  unfold blanks
  split
  . have:=Wn r;simp only[List.length_cons];omega
  . exact Nat.zero_le _
theorem C5 (s:List UInt8) (p:Nat):p<=Aq s p:=Nat.le_add_right _ _
theorem Fg {s:List UInt8} {p:Nat} (h:p<=s.length):Aq s p<=s.length:=by
 have:=Wn (s.drop p);rw[List.length_drop]at this;unfold Aq;omega
theorem Iv {s:List UInt8} {p:Nat} {c:UInt8} (h:s[p]? =some c):s.drop p=c::s.drop (p+1):=by
 obtain⟨hlt,rfl⟩:=List.getElem?_eq_some_iff.1 h;exact List.drop_eq_getElem_cons hlt
theorem Xr {s:List UInt8} {p:Nat} {c:UInt8} (h:s[p]? =some c) (hb:Fw c=true):Aq s p=Aq s (p+1):=by
 unfold Aq;rw[Iv h,blanks,if_pos hb];omega
theorem Eb {s:List UInt8} {p:Nat} {c:UInt8} (h:s[p]? =some c) (hb:Fw c=false):Aq s p=p:=by
 unfold Aq;rw[Iv h,blanks,if_neg (by rw[hb];decide)];rfl
theorem Uv {s:List UInt8} {p:Nat} (h:s.length<=p):Aq s p=p:=by
 unfold Aq;rw[List.drop_eq_nil_of_le h];rfl
theorem Am4 (s:List UInt8) (p:Nat): ∀c,s[Aq s p]? =some c->Fw c=false:=by
 unfold Aq;have key: ∀(l:List UInt8) c,l[blanks l]? =some c->Fw c=false:=by
  intro l
  induction l with
  |nil=>intro c h;simp at h
  |cons x r ih=>
   intro c h;unfold blanks at h
   split at h
   . rename_i hb;rw[List.getElem?_cons_succ]at h;exact ih c h
   . rename_i hb;simp only[List.getElem?_cons_zero,Option.some.injEq]at h;subst h;simpa using hb
 intro c h;exact key (s.drop p) c (by rw[List.getElem?_drop];exact h)
theorem Ea (s:List UInt8) (p:Nat):Aq s (Aq s p)=Aq s p:=by
 cases e:s[Aq s p]? with
 |none=>exact Uv (by simpa using e)
 |some c=>exact Eb e (Am4 s p c e)
def Dy (c:UInt8):Bool:=decide (48<=c.toNat/\c.toNat<=57)
def Q0:List UInt8->Nat
 | []=>0
 |c::r=>if Dy c=true then Q0 r+1 else 0
theorem Aga: ∀l:List UInt8,Q0 l<=l.length
 | []=>Nat.le_refl _
 |c::r=>by
  unfold Q0
  split
  . have:=Aga r;simp only[List.length_cons];omega
  . exact Nat.zero_le _
def Cq (s:List UInt8) (p:Nat):Nat:=p+Q0 (s.drop p)
theorem Wx (s:List UInt8) (p:Nat):p<=Cq s p:=Nat.le_add_right _ _
theorem Wy {s:List UInt8} {p:Nat} (h:p<=s.length):Cq s p<=s.length:=by
 have:=Aga (s.drop p);rw[List.length_drop]at this;unfold Cq;omega
theorem Abf {s:List UInt8} {p:Nat} {c:UInt8} (h:s[p]? =some c) (hb:Dy c=true):Cq s p=Cq s (p+1):=by
 unfold Cq;rw[Iv h,Q0,if_pos hb];omega
theorem Abg {s:List UInt8} {p:Nat} {c:UInt8} (h:s[p]? =some c) (hb:Dy c=false):Cq s p=p:=by
 unfold Cq;rw[Iv h,Q0,if_neg (by rw[hb];decide)];rfl
theorem Aec {s:List UInt8} {p:Nat} (h:s.length<=p):Cq s p=p:=by
 unfold Cq;rw[List.drop_eq_nil_of_le h];rfl
theorem Ts (s:List UInt8) (p:Nat): ∀i c,p<=i->i<Cq s p->s[i]? =some c->Dy c=true:=by
 have key: ∀(l:List UInt8) i c,i<Q0 l->l[i]? =some c->Dy c=true:=by
  intro l
  induction l with
  |nil=>intro i c h;simp[Q0]at h
  |cons x r ih=>
   intro i c h hc;unfold Q0 at h
   split at h
   . rename_i hb
     cases i with
     |zero=>simp only[List.getElem?_cons_zero,Option.some.injEq]at hc;subst hc;exact hb
     |succ i=>rw[List.getElem?_cons_succ]at hc;exact ih i c (by omega) hc
   . omega
 intro i c h1 h2 hc;unfold Cq at h2;exact key (s.drop p) (i - p) c (by omega) (by rw[List.getElem?_drop,show p+(i - p)=i from by omega];exact hc)
def Ik (l:List UInt8):Nat:=l.foldl (fun a c=>a*10+(c.toNat - 48)) 0
def Fs (neg:Bool) (m p q:Nat):Rd Int:=
 if neg=true then(if m=0\/9223372036854775808<m then .bad 7 p else .ok (-(m:Int)) q)else if 9223372036854775807<m then .bad 7 p else .ok (m:Int) q
def N6 (s:List UInt8) (p f:Nat):Rd Int:=
 if Cq s f=f then .bad 4 f
 else if s[f]? =some 48/\f+1<Cq s f then .bad 4 (f+1)
 else Fs (decide (s[p]? =some 45)) (Ik ((s.drop f).take (Cq s f - f))) p (Cq s f)
def Dg (s:List UInt8) (p:Nat):Rd Int:=N6 s p (if s[p]? =some 45 then p+1 else p)
def Vl (c:UInt8):Option Nat:=
 if 48<=c.toNat/\c.toNat<=57 then some (c.toNat - 48)else if 97<=c.toNat/\c.toNat<=102 then some (c.toNat - 87)else if 65<=c.toNat/\c.toNat<=70 then some (c.toNat - 55)else none
def Mr:List UInt8->Nat->Nat->Option Nat
 |_,0,n=>some n
 | [],_+1,_=>none
 |c::l,k+1,n=>match Vl c with
  |none=>none
  |some d=>Mr l k (16*n+d)
def F5 (l:List UInt8):Option Nat:=if l.length<6\/l[0]? ≠some 92\/l[1]? ≠some 117 then none else Mr (l.drop 2) 4 0
def Kz (c:UInt8):Option Nat:=
 if c=34 then some 34 else if c=92 then some 92 else if c=47 then some 47 else if c=98 then some 8 else if c=102 then some 12 else if c=110 then some 10 else if c=114 then some 13 else if c=116 then some 9 else none
def Jg (r:Nat) (l:List UInt8):Rd Nat:=
 if r<55296\/57344<=r then .ok r 6
 else if 56320<=r then .bad 3 0
 else match F5 l with
  |none=> .bad 3 0
  |some m=>if m<56320\/57344<=m then .bad 3 0 else .ok (65536+1024*(r - 55296)+(m - 56320)) 12
def Vn (l:List UInt8):Rd Nat:=match l[1]? with
 |none=> .bad 4 0
 |some c=>match Kz c with
  |none=> .bad 4 0
  |some r=> .ok r 2
def Kl (l:List UInt8):Rd Nat:=match F5 l with
 |some r=>Jg r (l.drop 6)
 |none=>Vn l
theorem Agg {c:UInt8} {d:Nat} (h:Vl c=some d):d<16:=by
 unfold Vl at h
 split at h
 . simp at h;omega
 split at h
 . simp at h;omega
 split at h
 . simp at h;omega
 . cases h
theorem Agh: ∀(k:Nat) (l:List UInt8) (n r:Nat),Mr l k n=some r->r<(n+1)*16 ^ k
 |0,l,n,r,h=>by
  have:n=r:=by cases l<;>simpa[Mr]using h
  subst this;simp
 |k+1, [],n,r,h=>by simp[Mr]at h
 |k+1,c::l,n,r,h=>by
  simp only[Mr]at h
  cases hd:Vl c with
  |none=>rw[hd]at h;cases h
  |some d=>
   rw[hd]at h;have h1:=Agh k l _ r h;have h2:=Agg hd;have h3:(16*n+d+1)*16 ^ k<=((n+1)*16)*16 ^ k:=Nat.mul_le_mul_right _ (by omega);rw[Nat.pow_succ,Nat.mul_comm (16 ^ k) 16,<-Nat.mul_assoc];omega
theorem Qq {l:List UInt8} {r:Nat} (h:F5 l=some r):r<65536/\6<=l.length:=by
 unfold F5 at h
 split at h
 . cases h
 . rename_i hn;have:=Agh 4 _ _ _ h;omega
theorem Tb {l:List UInt8} {r n:Nat} (h:Kl l=.ok r n):r<=1114111/\ ¬(55296<=r/\r<57344)/\2<=n/\n<=l.length:=by
 unfold Kl at h
 cases hu:F5 l with
 |some u=>
  rw[hu]at h;obtain⟨h1,h2⟩:=Qq hu;simp only[Jg]at h
  split at h
  . simp only[Rd.ok.injEq]at h;omega
  split at h
  . cases h
  cases hm:F5 (l.drop 6)with
  |none=>rw[hm]at h;cases h
  |some m=>
   rw[hm]at h;obtain⟨h3,h4⟩:=Qq hm;rw[List.length_drop]at h4;simp only at h
   split at h
   . cases h
   . simp only[Rd.ok.injEq]at h;omega
 |none=>
  rw[hu]at h;simp only[Vn]at h
  cases hc:l[1]? with
  |none=>rw[hc]at h;cases h
  |some c=>
   rw[hc]at h;have hl:=(List.getElem?_eq_some_iff.1 hc).1;simp only at h
   cases he:Kz c with
   |none=>rw[he]at h;cases h
   |some x=>
    rw[he]at h;simp only[Rd.ok.injEq]at h;have:x<=92:=by
     unfold Kz at he
     repeat' split at he
     all_goals first|(simp at he;omega)|cases he
    omega
def Ir:Nat->List UInt8->Nat->List UInt8->Rd (List UInt8)
 |0,_,i,_=> .bad 4 i
 |f+1,s,i,out=>match s[i]? with
  |none=> .bad 4 i
  |some c=>
   if c=34 then .ok out (i+1)
   else if c.toNat<32 then .bad 4 i
   else if c=92 then(match Kl (s.drop i)with
    | .bad e _=> .bad e i
    | .ok r n=>Ir f s (i+n) (out++Lib.encodeRune (r:Int)))
   else if(Lib.decodeL (s.drop i)).1=65533/\(Lib.decodeL (s.drop i)).2=1 then .bad 3 i
   else Ir f s (i+(Lib.decodeL (s.drop i)).2) (out++(s.drop i).take (Lib.decodeL (s.drop i)).2)
def Eg (s:List UInt8) (p:Nat):Rd (List UInt8):=if s[p]? =some 34 then Ir (s.length - p) s (p+1) []else .bad 4 p
theorem Aj2 {s:List UInt8} {i:Nat} (h:i<s.length):i+(Lib.decodeL (s.drop i)).2<=s.length:=by
 have:=Lib.decodeL_le (s.drop i) (by intro e;have:=congrArg List.length e;rw[List.length_drop]at this;simp at this;omega);rw[List.length_drop]at this;omega
def Rd.within {α:Type} (p n:Nat):Rd α->Prop
 | .ok _ q=>p<q/\q<=n
 | .bad e q=>p<=q/\q<=n/\1<=e/\e<=18
theorem Sl: ∀(f:Nat) (s:List UInt8) (i:Nat) (out:List UInt8),i<=s.length->(Ir f s i out).within i s.length
 |0,s,i,out,h=>⟨Nat.le_refl _,h,by decide,by decide⟩
 |f+1,s,i,out,h=>by
  unfold Ir
  cases hc:s[i]? with
  |none=>exact⟨Nat.le_refl _,h,by decide,by decide⟩
  |some c=>
   have hi:=(List.getElem?_eq_some_iff.1 hc).1;simp only;have step: ∀j o,i<j->j<=s.length->(Ir f s j o).within i s.length:=by
    intro j o h1 h2;have:=Sl f s j o h2
    cases hr:Ir f s j o with
    |ok a q=>rw[hr]at this;exact⟨by have:=this.1;omega,this.2⟩
    |bad e q=>rw[hr]at this;exact⟨by have:=this.1;omega,this.2⟩
   split
   . exact⟨by omega,by omega⟩
   split
   . exact⟨Nat.le_refl _,h,by decide,by decide⟩
   split
   . cases he:Kl (s.drop i)with
     |bad e q=>
      refine⟨Nat.le_refl _,h, ?_⟩;unfold Kl Jg Vn at he
      repeat' split at he
      all_goals first|(simp only[Rd.bad.injEq]at he;omega)|cases he
     |ok r n=>
      have:=Tb he;rw[List.length_drop]at this;exact step _ _ (by omega) (by omega)
   split
   . exact⟨Nat.le_refl _,h,by decide,by decide⟩
   . exact step _ _ (by have:=Lib.decodeL_width (s.drop i);omega) (Aj2 hi)
theorem Hs {s:List UInt8} {p:Nat} (h:p<=s.length):(Eg s p).within p s.length:=by
 unfold Eg
 split
 . rename_i hc;have hi:=(List.getElem?_eq_some_iff.1 hc).1;have:=Sl (s.length - p) s (p+1) [] (by omega)
   cases hr:Ir (s.length - p) s (p+1) []with
   |ok a q=>rw[hr]at this;exact⟨by have:=this.1;omega,this.2⟩
   |bad e q=>rw[hr]at this;exact⟨by have:=this.1;omega,this.2⟩
 . exact⟨Nat.le_refl _,h,by decide,by decide⟩
theorem Mo {s:List UInt8} {p:Nat} (h:p<s.length):(Dg s p).within p s.length:=by
 have hf:p<=(if s[p]? =some 45 then p+1 else p)/\(if s[p]? =some 45 then p+1 else p)<=s.length:=by split<;>omega
 have h1:=Wx s (if s[p]? =some 45 then p+1 else p);have h2:=Wy hf.2;unfold Dg;generalize (if s[p]? =some 45 then p+1 else p)=F at hf h1 h2 ⊢;unfold N6 Fs;generalize Cq s F=Q at h1 h2 ⊢
 repeat' split
 all_goals(unfold Rd.within;simp only;omega)
theorem Cz {s:List UInt8} {p:Nat} {c:UInt8} (h:s[p]? =some c):p<s.length:=(List.getElem?_eq_some_iff.1 h).1
end Go.Proofs.YtkmcjfkokoidcaaGreatDoor
