/- Parts: Keys in order; a list of members has one order. Plain. No condition. -/
import Derived.WalkKit
import Derived.Below
import Derived.Test.YtdbejcbbhomdbaaGreatDoorProg
import Derived.Laws.AppendOwn
import Derived.Lib.Hide
import Derived.Lib.Builder
import Derived.Lib.Strings
namespace Go.Proofs.YtdbejcbbhomdbaaGreatDoor
open Go.RowKit
inductive Val where
 |mk (k:Int) (b:Bool) (n:Int) (t:ByteArray) (l:List Val) (o:List (ByteArray×Val))
abbrev Dr (k:Int) (b:Bool) (n:Int) (t:ByteArray) (la:Option Addr) (ln lc:Nat) (oa:Option Addr) (on oc:Nat):List Value:=
 [.int .i64 k,.bool b,.int .i64 n,.string t,.slice la ln lc,.slice oa on oc]
mutual
def Ae (w:World) (B:Nat):Val->List Value->Prop
 | .mk k b n t l o,cs=> ∃la lc oa oc,cs=Dr k b n t la l.length lc oa o.length oc/\
    (l= []\/ ∃g off,la=some ⟨g,off,none⟩/\g<B/\Aj w B l g off)/\
    (o= []\/ ∃g off,oa=some ⟨g,off,none⟩/\g<B/\Ak w B o g off)
def Aj (w:World) (B:Nat):List Val->Nat->Nat->Prop
 | [],_,_=>True
 |v::r,g,off=>(∃cs,Ae w B v cs/\ ∀j u,cs[j]? =some u->w.cell? ⟨g,off+j,none⟩=some u)/\Aj w B r g (off+6)
def Ak (w:World) (B:Nat):List (ByteArray×Val)->Nat->Nat->Prop
 | [],_,_=>True
 |p::r,g,off=>Gh w B p g off/\Ak w B r g (off+7)
def Gh (w:World) (B:Nat):ByteArray×Val->Nat->Nat->Prop
 |(key,v),g,off=>w.cell? ⟨g,off,none⟩=some (.string key)/\ ∃cs,Ae w B v cs/\ ∀j u,cs[j]? =some u->w.cell? ⟨g,off+1+j,none⟩=some u
end
mutual
def Val.bulk:Val->Nat
 | .mk _ _ _ t l o=>6+t.size+Bd l+Af o
def Bd:List Val->Nat
 | []=>0
 |v::r=>v.bulk+Bd r
def Af:List (ByteArray×Val)->Nat
 | []=>0
 |p::r=>Cp p+Af r
def Cp:ByteArray×Val->Nat
 |(key,v)=>1+key.size+v.bulk
end
theorem Val.ind {p:Val->Prop} (h: ∀k b n t l o,(∀v ∈ l,p v)->(∀m ∈ o,p m.2)->p (.mk k b n t l o)): ∀v,p v:=by
 intro v;refine Val.rec (motive_1:=p) (motive_2:=fun l=> ∀v ∈ l,p v) (motive_3:=fun o=> ∀m ∈ o,p m.2) (motive_4:=fun m=>p m.2) ?_ ?_ ?_ ?_ ?_ ?_ v
 . intro k b n t l o hl ho;exact h k b n t l o hl ho
 . intro v hv
   cases hv
 . intro v r hv hr x hx;rcases List.mem_cons.1 hx with rfl|hx
   . exact hv
   . exact hr x hx
 . intro m hm
   cases hm
 . intro m r hm hr x hx;rcases List.mem_cons.1 hx with rfl|hx
   . exact hm
   . exact hr x hx
 . intro k v hv;exact hv
theorem Aj.of_keep {w w':World} {B:Nat} (hk: ∀p:Addr,p.block<B->w'.cell? p=w.cell? p):
 ∀(l:List Val),(∀v ∈ l,∀cs,Ae w B v cs->Ae w' B v cs)-> ∀g off,g<B->Aj w B l g off->Aj w' B l g off
 | [],_,_,_,_,_=>by simp[Aj]
 |v::r,ih,g,off,hg,h=>by
  simp only[Aj]at h ⊢;obtain⟨⟨cs,hv,hc⟩,hr⟩:=h;exact⟨⟨cs,ih v (by simp) cs hv,fun j u hu=>(hk _ hg).trans (hc j u hu)⟩,Aj.of_keep hk r (fun x hx=>ih x (by simp[hx])) g _ hg hr⟩
theorem Ak.of_keep {w w':World} {B:Nat} (hk: ∀p:Addr,p.block<B->w'.cell? p=w.cell? p):
 ∀(l:List (ByteArray×Val)),(∀m ∈ l,∀cs,Ae w B m.2 cs->Ae w' B m.2 cs)-> ∀g off,g<B->Ak w B l g off->Ak w' B l g off
 | [],_,_,_,_,_=>by simp[Ak]
 |(key,v)::r,ih,g,off,hg,h=>by
  simp only[Ak,Gh]at h ⊢;obtain⟨⟨h0,cs,hv,hc⟩,hr⟩:=h;exact⟨⟨(hk _ hg).trans h0,cs,ih (key,v) (by simp) cs hv,fun j u hu=>(hk _ hg).trans (hc j u hu)⟩,Ak.of_keep hk r (fun x hx=>ih x (by simp[hx])) g _ hg hr⟩
theorem Ae.keep {w w':World} {B:Nat} (hk: ∀p:Addr,p.block<B->w'.cell? p=w.cell? p): ∀(v:Val) cs,Ae w B v cs->Ae w' B v cs:=by
 refine Val.ind ?_;intro k b n t l o hl ho cs h;simp only[Ae]at h ⊢;obtain⟨la,lc,oa,oc,hcs,h1,h2⟩:=h;refine⟨la,lc,oa,oc,hcs, ?_, ?_⟩
 . rcases h1 with h1|⟨g,off,ha,hg,h1⟩
   . exact .inl h1
   . exact .inr ⟨g,off,ha,hg,Aj.of_keep hk l hl g off hg h1⟩
 . rcases h2 with h2|⟨g,off,ha,hg,h2⟩
   . exact .inl h2
   . exact .inr ⟨g,off,ha,hg,Ak.of_keep hk o ho g off hg h2⟩
theorem Ae.below {w w':World} {B:Nat} {v:Val} {cs:List Value} (h:Ae w B v cs) (hb:Below B w w'):Ae w' B v cs:=Ae.keep (fun _ hp=>hb.cell hp) v cs h
theorem Aj.keep {w w':World} {B:Nat} (hk: ∀p:Addr,p.block<B->w'.cell? p=w.cell? p) {l:List Val} {g off:Nat} (hg:g<B) (h:Aj w B l g off):Aj w' B l g off:=
 Aj.of_keep hk l (fun v _=>Ae.keep hk v) g off hg h
theorem Ak.keep {w w':World} {B:Nat} (hk: ∀p:Addr,p.block<B->w'.cell? p=w.cell? p) {l:List (ByteArray×Val)} {g off:Nat} (hg:g<B) (h:Ak w B l g off):Ak w' B l g off:=
 Ak.of_keep hk l (fun m _=>Ae.keep hk m.2) g off hg h
theorem Aj.below {w w':World} {B:Nat} {l:List Val} {g off:Nat} (hg:g<B) (h:Aj w B l g off) (hb:Below B w w'):Aj w' B l g off:=Aj.keep (fun _ hp=>hb.cell hp) hg h
theorem Ak.below {w w':World} {B:Nat} {l:List (ByteArray×Val)} {g off:Nat} (hg:g<B) (h:Ak w B l g off) (hb:Below B w w'):Ak w' B l g off:=Ak.keep (fun _ hp=>hb.cell hp) hg h
theorem Aj.of_more {w:World} {B B':Nat}: ∀(l:List Val),(∀v ∈ l,∀cs,Ae w B v cs->Ae w B' v cs)-> ∀g off,Aj w B l g off->Aj w B' l g off
 | [],_,_,_,_=>by simp[Aj]
 |v::r,ih,g,off,h=>by
  simp only[Aj]at h ⊢;obtain⟨⟨cs,hv,hc⟩,hr⟩:=h;exact⟨⟨cs,ih v (by simp) cs hv,hc⟩,Aj.of_more r (fun x hx=>ih x (by simp[hx])) g _ hr⟩
theorem Ak.of_more {w:World} {B B':Nat}: ∀(l:List (ByteArray×Val)),(∀m ∈ l,∀cs,Ae w B m.2 cs->Ae w B' m.2 cs)-> ∀g off,Ak w B l g off->Ak w B' l g off
 | [],_,_,_,_=>by simp[Ak]
 |(key,v)::r,ih,g,off,h=>by
  simp only[Ak,Gh]at h ⊢;obtain⟨⟨h0,cs,hv,hc⟩,hr⟩:=h;exact⟨⟨h0,cs,ih (key,v) (by simp) cs hv,hc⟩,Ak.of_more r (fun x hx=>ih x (by simp[hx])) g _ hr⟩
theorem Ae.more {w:World} {B B':Nat} (hB:B<=B'): ∀(v:Val) cs,Ae w B v cs->Ae w B' v cs:=by
 refine Val.ind ?_;intro k b n t l o hl ho cs h;simp only[Ae]at h ⊢;obtain⟨la,lc,oa,oc,hcs,h1,h2⟩:=h;refine⟨la,lc,oa,oc,hcs, ?_, ?_⟩
 . rcases h1 with h1|⟨g,off,ha,hg,h1⟩
   . exact .inl h1
   . exact .inr ⟨g,off,ha,by omega,Aj.of_more l hl g off h1⟩
 . rcases h2 with h2|⟨g,off,ha,hg,h2⟩
   . exact .inl h2
   . exact .inr ⟨g,off,ha,by omega,Ak.of_more o ho g off h2⟩
theorem Aj.at_ {w:World} {B:Nat}: ∀{l:List Val} {g off:Nat},Aj w B l g off-> ∀{i:Nat} {v:Val},l[i]? =some v->
 ∃cs,Ae w B v cs/\ ∀j u,cs[j]? =some u->w.cell? ⟨g,off+i*6+j,none⟩=some u
 | [],_,_,_,i,v,hi=>by simp at hi
 |x::r,g,off,h,0,v,hi=>by
  simp only[Aj]at h;obtain⟨h,_⟩:=h;simp at hi;subst hi;simpa using h
 |x::r,g,off,h,i+1,v,hi=>by
  simp only[Aj]at h;obtain⟨cs,hv,hc⟩:=Aj.at_ h.2 (i:=i) (v:=v) (by simpa using hi);exact⟨cs,hv,fun j u hu=>by rw[show off+(i+1)*6+j=off+6+i*6+j from by omega];exact hc j u hu⟩
theorem Ak.at_ {w:World} {B:Nat}: ∀{l:List (ByteArray×Val)} {g off:Nat},Ak w B l g off-> ∀{i:Nat} {m:ByteArray×Val},l[i]? =some m->
 w.cell? ⟨g,off+i*7,none⟩=some (.string m.1)/\ ∃cs,Ae w B m.2 cs/\ ∀j u,cs[j]? =some u->w.cell? ⟨g,off+i*7+1+j,none⟩=some u
 | [],_,_,_,i,v,hi=>by simp at hi
 |x::r,g,off,h,0,v,hi=>by
  simp only[Ak]at h;obtain⟨h,_⟩:=h;simp at hi;subst hi;obtain⟨key,v⟩:=x;simpa only[Gh,Nat.zero_mul,Nat.add_zero]using h
 |x::r,g,off,h,i+1,m,hi=>by
  simp only[Ak]at h;obtain⟨h0,cs,hv,hc⟩:=Ak.at_ h.2 (i:=i) (m:=m) (by simpa using hi);exact⟨by rw[show off+(i+1)*7=off+7+i*7 from by omega];exact h0,cs,hv,fun j u hu=>by rw[show off+(i+1)*7+1+j=off+7+i*7+1+j from by omega];exact hc j u hu⟩
theorem Aj.six {w:World} {B:Nat} {l:List Val} {g off:Nat} (h:Aj w B l g off) {i:Nat} {k:Int} {b:Bool} {n:Int} {t:ByteArray} {l':List Val} {o':List (ByteArray×Val)} (hi:l[i]? =some (.mk k b n t l' o')):
 ∃la lc oa oc,Ae w B (.mk k b n t l' o') (Dr k b n t la l'.length lc oa o'.length oc)/\w.cell? ⟨g,off+i*6,none⟩=some (.int .i64 k)/\w.cell? ⟨g,off+i*6+1,none⟩=some (.bool b)/\
  w.cell? ⟨g,off+i*6+2,none⟩=some (.int .i64 n)/\w.cell? ⟨g,off+i*6+3,none⟩=some (.string t)/\w.cell? ⟨g,off+i*6+4,none⟩=some (.slice la l'.length lc)/\
  w.cell? ⟨g,off+i*6+5,none⟩=some (.slice oa o'.length oc):=by
 obtain⟨cs,hv,hc⟩:=h.at_ hi;have hv':=hv;simp only[Ae]at hv';obtain⟨la,lc,oa,oc,rfl,_,_⟩:=hv';exact⟨la,lc,oa,oc,hv,hc 0 _ rfl,hc 1 _ rfl,hc 2 _ rfl,hc 3 _ rfl,hc 4 _ rfl,hc 5 _ rfl⟩
theorem Ak.seven {w:World} {B:Nat} {l:List (ByteArray×Val)} {g off:Nat} (h:Ak w B l g off) {i:Nat} {key:ByteArray} {k:Int} {b:Bool} {n:Int} {t:ByteArray} {l':List Val} {o':List (ByteArray×Val)} (hi:l[i]? =some (key,.mk k b n t l' o')):
 ∃la lc oa oc,Ae w B (.mk k b n t l' o') (Dr k b n t la l'.length lc oa o'.length oc)/\w.cell? ⟨g,off+i*7,none⟩=some (.string key)/\w.cell? ⟨g,off+i*7+1,none⟩=some (.int .i64 k)/\w.cell? ⟨g,off+i*7+2,none⟩=some (.bool b)/\
  w.cell? ⟨g,off+i*7+3,none⟩=some (.int .i64 n)/\w.cell? ⟨g,off+i*7+4,none⟩=some (.string t)/\w.cell? ⟨g,off+i*7+5,none⟩=some (.slice la l'.length lc)/\
  w.cell? ⟨g,off+i*7+6,none⟩=some (.slice oa o'.length oc):=by
 obtain⟨h0,cs,hv,hc⟩:=h.at_ hi;have hv':=hv;simp only[Ae]at hv';obtain⟨la,lc,oa,oc,rfl,_,_⟩:=hv';exact⟨la,lc,oa,oc,hv,h0,hc 0 _ rfl,hc 1 _ rfl,hc 2 _ rfl,hc 3 _ rfl,hc 4 _ rfl,hc 5 _ rfl⟩
theorem Dg {l:List Val} {v:Val} (h:v ∈ l):v.bulk<=Bd l:=by
 induction l with
 |nil=>cases h
 |cons x r ih=>
  simp only[Bd];rcases List.mem_cons.1 h with rfl|h
  . omega
  . have:=ih h;omega
theorem C3 {l:List (ByteArray×Val)} {m:ByteArray×Val} (h:m ∈ l):1+m.1.size+m.2.bulk<=Af l:=by
 induction l with
 |nil=>cases h
 |cons x r ih=>
  obtain⟨k,v⟩:=x;simp only[Af,Cp];rcases List.mem_cons.1 h with rfl|h
  . simp only;omega
  . have:=ih h;omega
theorem Val.bulk_pos (v:Val):6<=v.bulk:=by
 obtain⟨k,b,n,t,l,o⟩:=v;simp only[Val.bulk];omega
theorem Df (l:List Val):6*l.length<=Bd l:=by
 induction l with
 |nil=>simp[Bd]
 |cons x r ih=>simp only[Bd,List.length_cons];have:=x.bulk_pos;omega
theorem Aw (l:List (ByteArray×Val)):7*l.length<=Af l:=by
 induction l with
 |nil=>simp[Af]
 |cons x r ih=>obtain⟨k,v⟩:=x;simp only[Af,Cp,List.length_cons];have:=v.bulk_pos;omega
mutual
def Nq:Val->Prop
 | .mk _ _ n _ l o=>(-9223372036854775808<=n/\n<=9223372036854775807)/\Tn l/\O2 o
def Tn:List Val->Prop
 | []=>True
 |v::r=>Nq v/\Tn r
def O2:List (ByteArray×Val)->Prop
 | []=>True
 |p::r=>inP p/\O2 r
def inP:ByteArray×Val->Prop
 |(_,v)=>Nq v
end
def F6 (w:World) (B:Nat):List Val->List Value->Prop
 | [],ns=>ns= []
 |v::r,ns=> ∃cs rest,ns=cs++rest/\Ae w B v cs/\F6 w B r rest
theorem Ae.len {w:World} {B:Nat} {v:Val} {cs:List Value} (h:Ae w B v cs):cs.length=6/\ ∀u ∈ cs,u.oneCell'=true:=by
 obtain⟨k,b,n,t,l,o⟩:=v;simp only[Ae]at h;obtain⟨la,lc,oa,oc,rfl,_,_⟩:=h;refine⟨rfl,fun u hu=> ?_⟩;simp only[List.mem_cons,List.not_mem_nil,or_false]at hu;rcases hu with rfl|rfl|rfl|rfl|rfl|rfl<;>rfl
theorem F6.len {w:World} {B:Nat}: ∀{l:List Val} {ns:List Value},F6 w B l ns->ns.length=l.length*6/\ ∀u ∈ ns,u.oneCell'=true
 | [],ns,h=>by
   have:ns= []:=h;subst this;exact⟨rfl,fun u hu=>by cases hu⟩
 |v::r,ns,h=>by
  obtain⟨cs,rest,rfl,h1,h2⟩:=h;obtain⟨a1,a2⟩:=h1.len;obtain⟨b1,b2⟩:=F6.len h2;refine⟨by rw[List.length_append,a1,b1,List.length_cons];omega,fun u hu=> ?_⟩;rcases List.mem_append.1 hu with hu|hu
  . exact a2 u hu
  . exact b2 u hu
theorem Aj.row {w:World} {B:Nat}: ∀{l:List Val} {g off:Nat},Aj w B l g off-> ∃ns,F6 w B l ns/\ ∀j u,ns[j]? =some u->w.cell? ⟨g,off+j,none⟩=some u
 | [],_,_,_=>⟨[],rfl,fun j u h=>by simp at h⟩
 |v::r,g,off,h=>by
  simp only[Aj]at h;obtain⟨⟨cs,h1,h2⟩,h3⟩:=h;obtain⟨ns,h4,h5⟩:=Aj.row h3;refine⟨cs++ns,⟨cs,ns,rfl,h1,h4⟩,fun j u hu=> ?_⟩;have hl:=h1.len.1;by_cases hj:j<6
  . rw[List.getElem?_append_left (by omega)]at hu;exact h2 j u hu
  . rw[List.getElem?_append_right (by omega),hl]at hu;have:=h5 (j - 6) u hu
    rwa [show off+6+(j - 6)=off+j from by omega]at this
theorem F6.holds {w w':World} {B B':Nat} (hk: ∀v cs,Ae w B v cs->Ae w' B' v cs) {g:Nat}: ∀{l:List Val} {ns:List Value} {off:Nat},F6 w B l ns->(∀j u,ns[j]? =some u->w'.cell? ⟨g,off+j,none⟩=some u)->Aj w' B' l g off
 | [],_,_,_,_=>by simp[Aj]
 |v::r,ns,off,h,hc=>by
  obtain⟨cs,rest,rfl,h1,h2⟩:=h;have hl:=h1.len.1;simp only[Aj];refine⟨⟨cs,hk v cs h1,fun j u hu=>hc j u ?_⟩,F6.holds hk h2 (fun j u hu=> ?_)⟩
  . have:=(List.getElem?_eq_some_iff.1 hu).1;rw[List.getElem?_append_left this];exact hu
  . rw[show off+6+j=off+(6+j)from by omega];refine hc (6+j) u ?_;rw[List.getElem?_append_right (by omega),hl,show 6+j - 6=j from by omega];exact hu
theorem F6.snoc {w:World} {B:Nat} {v:Val} {cs:List Value} (hv:Ae w B v cs): ∀{l:List Val} {ns:List Value},F6 w B l ns->F6 w B (l++ [v]) (ns++cs)
 | [],ns,h=>by
   have:ns= []:=h;subst this;exact⟨cs, [],by simp,hv,rfl⟩
 |x::r,ns,h=>by
  obtain⟨c1,rest,rfl,h1,h2⟩:=h;exact⟨c1,rest++cs,by simp,h1,F6.snoc hv h2⟩
def within:Val->List Val
 | .mk k _ _ _ l o=>if k=5 then l else if k=6 then o.map (·.2)else []
def W4 (w w':World) (v:Val) (cs:List Value):Prop:= ∀w'':World,w'.heap.size<=w''.heap.size->(∀p:Addr,w.heap.size<=p.block->p.block<w'.heap.size->w''.cell? p=w'.cell? p)->Ae w'' w'.heap.size v cs
theorem F6.more {w:World} {B B':Nat} (h:B<=B'): ∀{l:List Val} {ns:List Value},F6 w B l ns->F6 w B' l ns
 | [],_,e=>e
 |_::_,_,⟨cs,rest,e,h1,h2⟩=>⟨cs,rest,e,Ae.more h _ _ h1,F6.more h h2⟩
def Dy (w:World) (B:Nat):List (ByteArray×Val)->List Value->Prop
 | [],ns=>ns= []
 |(key,v)::r,ns=> ∃cs rest,ns=.string key::(cs++rest)/\Ae w B v cs/\Dy w B r rest
theorem Dy.more {w:World} {B B':Nat} (h:B<=B'): ∀{l:List (ByteArray×Val)} {ns:List Value},Dy w B l ns->Dy w B' l ns
 | [],_,e=>e
 |(_,_)::_,_,⟨cs,rest,e,h1,h2⟩=>⟨cs,rest,e,Ae.more h _ _ h1,Dy.more h h2⟩
theorem Dy.holds {w:World} {B:Nat} {g:Nat}: ∀{l:List (ByteArray×Val)} {ns:List Value} {off:Nat},Dy w B l ns->(∀j u,ns[j]? =some u->w.cell? ⟨g,off+j,none⟩=some u)->Ak w B l g off
 | [],_,_,_,_=>by simp[Ak]
 |(key,v)::r,ns,off,h,hc=>by
  obtain⟨cs,rest,rfl,h1,h2⟩:=h;have hl:=h1.len.1;simp only[Ak,Gh];refine⟨⟨hc 0 _ rfl,cs,h1,fun j u hu=> ?_⟩,Dy.holds h2 (fun j u hu=> ?_)⟩
  . have h3:=(List.getElem?_eq_some_iff.1 hu).1;rw[show off+1+j=off+(j+1)from by omega];refine hc (j+1) u ?_;rw[List.getElem?_cons_succ,List.getElem?_append_left h3];exact hu
  . rw[show off+7+j=off+(6+j+1)from by omega];refine hc (6+j+1) u ?_;rw[List.getElem?_cons_succ,List.getElem?_append_right (by omega),hl,show 6+j - 6=j from by omega];exact hu
theorem Dy.snoc {w:World} {B:Nat} {key:ByteArray} {v:Val} {cs:List Value} (hv:Ae w B v cs): ∀{l:List (ByteArray×Val)} {ns:List Value},Dy w B l ns->Dy w B (l++ [(key,v)]) (ns++(.string key::cs))
 | [],ns,h=>by
   have:ns= []:=h;subst this;exact⟨cs, [],by simp,hv,rfl⟩
 |(k',x)::r,ns,h=>by
  obtain⟨c1,rest,rfl,h1,h2⟩:=h;exact⟨c1,rest++(.string key::cs),by simp,h1,Dy.snoc hv h2⟩
theorem Yc:(Tryz.prog.info? 33).map (fun i=>(i.zero,i.size,i.bytes))=some (some (.agg #[.int .i64 0,.bool false,.int .i64 0,.string ⟨#[]⟩,.slice none 0 0,.slice none 0 0]),6,88):=by kernel_rfl
theorem Rs:(Tryz.prog.info? 88).map (fun i=>(i.zero,i.size,i.bytes))=some (some (.agg #[.string ⟨#[]⟩,.int .i64 0,.bool false,.int .i64 0,.string ⟨#[]⟩,.slice none 0 0,.slice none 0 0]),7,104):=by kernel_rfl
theorem Fx (w:World) (b i:Nat) (V:Value) {c:Nat} (h:c≠b):(w.setCell ⟨b,i,none⟩ V).heap[c]? =w.heap[c]? :=by
 simp only[World.setCell,Array.getElem?_modify];rw[if_neg (fun e=>h e.symm)]
theorem Dy.app {w:World} {B:Nat}: ∀{a b:List (ByteArray×Val)} {ns ms:List Value},Dy w B a ns->Dy w B b ms->Dy w B (a++b) (ns++ms)
 | [],b,ns,ms,h,h'=>by
   have:ns= []:=h;subst this;exact h'
 |(k,v)::r,b,ns,ms,⟨cs,rest,e,h1,h2⟩,h'=>by
  subst e;exact⟨cs,rest++ms,by simp,h1,Dy.app h2 h'⟩
theorem Dy.len {w:World} {B:Nat}: ∀{l:List (ByteArray×Val)} {ns:List Value},Dy w B l ns->ns.length=l.length*7/\ ∀u ∈ ns,u.oneCell'=true
 | [],ns,h=>by
   have:ns= []:=h;subst this;exact⟨rfl,fun u hu=>by cases hu⟩
 |(k,v)::r,ns,⟨cs,rest,e,h1,h2⟩=>by
  subst e;obtain⟨a1,a2⟩:=h1.len;obtain⟨b1,b2⟩:=Dy.len h2;refine⟨by rw[List.length_cons,List.length_append,a1,b1,List.length_cons];omega,fun u hu=> ?_⟩;rcases List.mem_cons.1 hu with rfl|hu
  . rfl
  rcases List.mem_append.1 hu with hu|hu
  . exact a2 u hu
  . exact b2 u hu
theorem Dy.split {w:World} {B:Nat}: ∀{l:List (ByteArray×Val)} {ns:List Value} (k:Nat),Dy w B l ns->Dy w B (l.take k) (ns.take (k*7))/\Dy w B (l.drop k) (ns.drop (k*7))
 | [],ns,k,h=>by
   have:ns= []:=h;subst this;simp[Dy]
 |(key,v)::r,ns,0,h=>by
  simp only[List.take_zero,Nat.zero_mul,List.drop_zero];exact⟨rfl,h⟩
 |(key,v)::r,ns,k+1,⟨cs,rest,e,h1,h2⟩=>by
  subst e;obtain⟨a,b⟩:=Dy.split k h2;have hl:=h1.len.1;have e1:(Value.string key::(cs++rest)).take ((k+1)*7)=.string key::(cs++rest.take (k*7)):=by
   rw[show(k+1)*7=(6+k*7)+1 from by omega,List.take_succ_cons,List.take_append,hl,List.take_of_length_le (by omega),show 6+k*7 - 6=k*7 from by omega]
  have e2:(Value.string key::(cs++rest)).drop ((k+1)*7)=rest.drop (k*7):=by
   rw[show(k+1)*7=(6+k*7)+1 from by omega,List.drop_succ_cons,List.drop_append,hl,List.drop_eq_nil_of_le (by omega),show 6+k*7 - 6=k*7 from by omega,List.nil_append]
  rw[e1,e2];exact⟨⟨cs,rest.take (k*7),rfl,h1,a⟩,b⟩
theorem Ch: ∀(a b:List (ByteArray×Val)),Af (a++b)=Af a+Af b
 | [],b=>by simp[Af]
 |x::r,b=>by simp only[List.cons_append,Af,Ch r b];omega
def Bq (a b:ByteArray):Bool:=Op.bytesLess a.toList b.toList
def Ct (k:ByteArray):List (ByteArray×Val)->Nat
 | []=>0
 |p::r=>if Bq p.1 k then Ct k r+1 else 0
def B6 (k:ByteArray) (acc:List (ByteArray×Val)):Bool:=(acc[Ct k acc]?).any fun p=>p.1.toList==k.toList
def Wi (m:ByteArray×Val) (acc:List (ByteArray×Val)):List (ByteArray×Val):=acc.take (Ct m.1 acc)++([m]++acc.drop (Ct m.1 acc))
def Cn:List (ByteArray×Val)->List (ByteArray×Val)->Option (List (ByteArray×Val))
 | [],acc=>some acc
 |m::r,acc=>if B6 m.1 acc then none else Cn r (Wi m acc)
theorem Pp (k:ByteArray): ∀acc,Ct k acc<=acc.length
 | []=>Nat.zero_le _
 |p::r=>by
  have:=Pp k r;simp only[Ct,List.length_cons]
  split<;>omega
theorem Vj (m:ByteArray×Val) (acc:List (ByteArray×Val)):Af (Wi m acc)=Af acc+Cp m:=by
 have h:=congrArg Af (List.take_append_drop (Ct m.1 acc) acc);rw[Ch]at h;simp only[Wi,Ch,Af];omega
theorem Le: ∀{l acc o:List (ByteArray×Val)},Cn l acc=some o->Af o=Af acc+Af l
 | [],acc,o,h=>by
   simp only[Cn,Option.some.injEq]at h;subst h;simp[Af]
 |m::r,acc,o,h=>by
  simp only[Cn]at h;by_cases hh:B6 m.1 acc=true
  . rw[if_pos hh]at h;cases h
  . rw[if_neg hh]at h;rw[Le h,Vj];simp only[Af];omega
theorem F8: ∀x:List UInt8,Op.bytesLess x x=false
 | []=>rfl
 |a::x=>by simp[Op.bytesLess,F8 x,UInt8.lt_irrefl]
theorem Mb: ∀{x y z:List UInt8},Op.bytesLess x y=true->Op.bytesLess y z=true->Op.bytesLess x z=true
 |_, [],_,h,_=>by cases ‹List UInt8› <;>simp[Op.bytesLess]at h
 |_,_::_, [],_,h=>by simp[Op.bytesLess]at h
 | [],_::_,_::_,_,_=>rfl
 |a::x,b::y,c::z,h,k=>by
  simp only[Op.bytesLess,Bool.or_eq_true,Bool.and_eq_true,decide_eq_true_eq,beq_iff_eq]at h k ⊢;rcases h with h|⟨rfl,h⟩<;>rcases k with k|⟨rfl,k⟩
  . exact .inl (UInt8.lt_trans h k)
  . exact .inl h
  . exact .inl k
  . exact .inr ⟨rfl,Mb h k⟩
theorem S9: ∀(x y:List UInt8),Op.bytesLess x y=true\/x=y\/Op.bytesLess y x=true
 | [], []=> .inr (.inl rfl)
 | [],_::_=> .inl rfl
 |_::_, []=> .inr (.inr rfl)
 |a::x,b::y=>by
  simp only[Op.bytesLess,Bool.or_eq_true,Bool.and_eq_true,decide_eq_true_eq,beq_iff_eq];rcases Nat.lt_trichotomy a.toNat b.toNat with h|h|h
  . exact .inl (.inl (UInt8.lt_iff_toNat_lt.2 h))
  . have hab:a=b:=UInt8.toNat_inj.1 h;subst hab;rcases S9 x y with h|h|h
    . exact .inl (.inr ⟨rfl,h⟩)
    . exact .inr (.inl (by rw[h]))
    . exact .inr (.inr (.inr ⟨rfl,h⟩))
  . exact .inr (.inr (.inl (UInt8.lt_iff_toNat_lt.2 h)))
theorem Du {a b:ByteArray} (h:a.toList=b.toList):a=b:=by
 rw[Lib.toList_data,Lib.toList_data]at h;exact ByteArray.ext (Array.ext' h)
theorem Cm (a:ByteArray):Bq a a=false:=F8 _
theorem A9 {a b c:ByteArray} (h:Bq a b=true) (k:Bq b c=true):Bq a c=true:=Mb h k
theorem D9 (a b:ByteArray):Bq a b=true\/a=b\/Bq b a=true:=by
 rcases S9 a.toList b.toList with h|h|h
 . exact .inl h
 . exact .inr (.inl (Du h))
 . exact .inr (.inr h)
theorem J8 {a b:ByteArray} (h:Bq a b=true):Bq b a=false:=by
 cases e:Bq b a with
 |false=>rfl
 |true=>have:=A9 h e;rw[Cm]at this;cases this
def Bb (l:List (ByteArray×Val)):Prop:=l.Pairwise fun a b=>Bq a.1 b.1=true
theorem Oo (k:ByteArray): ∀{acc:List (ByteArray×Val)},Bb acc->B6 k acc=false->(∀p ∈ acc.take (Ct k acc),Bq p.1 k=true)/\(∀p ∈ acc.drop (Ct k acc),Bq k p.1=true)
 | [],_,_=>by simp
 |q::r,ha,hh=>by
  obtain⟨h1,h2⟩:=List.pairwise_cons.1 ha;by_cases hq:Bq q.1 k=true
  . have hh':B6 k r=false:=by
     unfold B6 at hh ⊢;simpa only[Ct,if_pos hq,List.getElem?_cons_succ]using hh
    obtain⟨a,b⟩:=Oo k h2 hh';simp only[Ct,if_pos hq,List.take_succ_cons,List.drop_succ_cons];refine⟨fun p hp=> ?_,b⟩;rcases List.mem_cons.1 hp with rfl|hp
    . exact hq
    . exact a p hp
  . simp only[Ct,if_neg hq,List.take_zero,List.drop_zero];refine⟨fun p hp=>(by cases hp), ?_⟩;have hne:q.1≠k:=by
     intro e;unfold B6 at hh;simp only[Ct,if_neg hq,List.getElem?_cons_zero,Option.any_some]at hh;rw[e]at hh;simp at hh
    have hkq:Bq k q.1=true:=by
     rcases D9 q.1 k with h|h|h
     . exact absurd h hq
     . exact absurd h hne
     . exact h
    intro p hp;rcases List.mem_cons.1 hp with rfl|hp
    . exact hkq
    . exact A9 hkq (h1 p hp)
theorem Za {m:ByteArray×Val} {acc:List (ByteArray×Val)} (ha:Bb acc) (hh:B6 m.1 acc=false):Bb (Wi m acc):=by
 obtain⟨h1,h2⟩:=Oo m.1 ha hh;have h3:Bb (acc.take (Ct m.1 acc)++acc.drop (Ct m.1 acc)):=by rw[List.take_append_drop];exact ha
 obtain⟨h4,h5,h6⟩:=List.pairwise_append.1 h3;refine List.pairwise_append.2 ⟨h4,List.pairwise_cons.2 ⟨h2,h5⟩,fun a ha b hb=> ?_⟩;rcases List.mem_cons.1 hb with rfl|hb
 . exact h1 a ha
 . exact h6 a ha b hb
theorem Pc (m:ByteArray×Val) (acc:List (ByteArray×Val)):(Wi m acc).Perm (m::acc):=by
 have h:(acc.take (Ct m.1 acc)++([m]++acc.drop (Ct m.1 acc))).Perm ([m]++(acc.take (Ct m.1 acc)++acc.drop (Ct m.1 acc))):=by
  rw[<-List.append_assoc,<-List.append_assoc];exact List.Perm.append_right _ List.perm_append_comm
 rw[List.take_append_drop]at h;exact h
theorem X7 {k:ByteArray} {acc:List (ByteArray×Val)} (h:B6 k acc=true): ∃v,(k,v) ∈ acc:=by
 unfold B6 at h
 cases e:acc[Ct k acc]? with
 |none=>rw[e]at h;cases h
 |some p=>
  rw[e]at h;have hk:p.1=k:=Du (by simpa using h);exact⟨p.2,by rw[<-hk];exact List.mem_of_getElem? e⟩
theorem H8: ∀{l acc o:List (ByteArray×Val)},Cn l acc=some o->Bb acc->Bb o/\o.Perm (l++acc)
 | [],acc,o,h,ha=>by
   simp only[Cn,Option.some.injEq]at h;subst h;exact⟨ha,List.Perm.refl _⟩
 |m::r,acc,o,h,ha=>by
  simp only[Cn]at h;by_cases hh:B6 m.1 acc=true
  . rw[if_pos hh]at h;cases h
  . rw[if_neg hh]at h;obtain⟨h1,h2⟩:=H8 h (Za ha (by simpa using hh));exact⟨h1,h2.trans ((List.Perm.append_left r (Pc m acc)).trans List.perm_middle)⟩
theorem Qw {l:List (ByteArray×Val)} (h:Bb l):(l.map (·.1)).Nodup:=by
 rw[List.Nodup,List.pairwise_map];exact h.imp fun hab e=>by rw[e,Cm]at hab;cases hab
theorem Lf: ∀{l acc:List (ByteArray×Val)},Cn l acc=none-> ¬((l++acc).map (·.1)).Nodup
 | [],acc,h=>by simp[Cn]at h
 |m::r,acc,h=>by
  simp only[Cn]at h;by_cases hh:B6 m.1 acc=true
  . obtain⟨v,hv⟩:=X7 hh;intro hn;rw[List.cons_append,List.map_cons,List.nodup_cons]at hn;exact hn.1 (List.mem_map.2 ⟨(m.1,v),List.mem_append.2 (.inr hv),rfl⟩)
  . rw[if_neg hh]at h;intro hn;refine Lf h ?_;have hp:((r++Wi m acc).map (·.1)).Perm ((m::r++acc).map (·.1)):=((List.Perm.append_left r (Pc m acc)).trans List.perm_middle).map _;exact hp.nodup_iff.2 hn
theorem Ma: ∀{a b:List (ByteArray×Val)},Bb a->Bb b->a.Perm b->a=b
 | [],b,_,_,h=>(List.Perm.nil_eq h)
 |x::a, [],_,_,h=>by have:=h.length_eq;simp at this
 |x::a,y::b,ha,hb,h=>by
  obtain⟨h1,h2⟩:=List.pairwise_cons.1 ha;obtain⟨h3,h4⟩:=List.pairwise_cons.1 hb;have hxy:x=y:=by
   rcases List.mem_cons.1 (h.mem_iff.1 (List.mem_cons_self (a:=x)))with e|hx
   . exact e
   . rcases List.mem_cons.1 (h.mem_iff.2 (List.mem_cons_self (a:=y)))with e|hy
     . exact e.symm
     . have p:=h3 x hx;have q:=h1 y hy;rw[J8 p]at q
       cases q
  subst hxy;rw[Ma h2 h4 (List.perm_cons _ |>.1 h)]
theorem Nx {l d:List (ByteArray×Val)} (hp:d.Perm l) (ha:Bb d):Cn l []=some d:=by
 cases e:Cn l []with
 |none=>
  exfalso
  refine Lf e ?_;rw[List.append_nil];exact(hp.map (·.1)).nodup_iff.1 (Qw ha)
 |some o=>
  obtain⟨h1,h2⟩:=H8 e List.Pairwise.nil;rw[List.append_nil]at h2;rw[Ma ha h1 (hp.trans h2.symm)]
theorem P9 {l d:List (ByteArray×Val)} (hp:d.Perm l) (ht: ¬(d.map (·.1)).Nodup):Cn l []=none:=by
 cases e:Cn l []with
 |none=>rfl
 |some o=>
  obtain⟨h1,h2⟩:=H8 e List.Pairwise.nil;rw[List.append_nil]at h2;exact absurd ((hp.trans h2.symm).map (·.1) |>.nodup_iff.2 (Qw h1)) ht
end Go.Proofs.YtdbejcbbhomdbaaGreatDoor
