/- Parts: Data of any make and how they lie in memory: leaves, structs, rows. Plain. No condition. -/
import Derived.WalkKit
import Derived.Below
namespace Go.Proofs.YtnkmhaachfgaoaaGreatDoor
open Go.RowKit
inductive Val where
 |mk (k:Int) (b:Bool) (n:Int) (t:ByteArray) (l:List Val) (o:List (ByteArray×Val))
abbrev Dk (k:Int) (b:Bool) (n:Int) (t:ByteArray) (la:Option Addr) (ln lc:Nat) (oa:Option Addr) (on oc:Nat):List Value:=
 [.int .i64 k,.bool b,.int .i64 n,.string t,.slice la ln lc,.slice oa on oc]
mutual
def Ab (w:World) (B:Nat):Val->List Value->Prop
 | .mk k b n t l o,cs=> ∃la lc oa oc,cs=Dk k b n t la l.length lc oa o.length oc/\
    (l= []\/ ∃g off,la=some ⟨g,off,none⟩/\g<B/\Aj w B l g off)/\
    (o= []\/ ∃g off,oa=some ⟨g,off,none⟩/\g<B/\Ak w B o g off)
def Aj (w:World) (B:Nat):List Val->Nat->Nat->Prop
 | [],_,_=>True
 |v::r,g,off=>(∃cs,Ab w B v cs/\ ∀j u,cs[j]? =some u->w.cell? ⟨g,off+j,none⟩=some u)/\Aj w B r g (off+6)
def Ak (w:World) (B:Nat):List (ByteArray×Val)->Nat->Nat->Prop
 | [],_,_=>True
 |p::r,g,off=>J5 w B p g off/\Ak w B r g (off+7)
def J5 (w:World) (B:Nat):ByteArray×Val->Nat->Nat->Prop
 |(key,v),g,off=>w.cell? ⟨g,off,none⟩=some (.string key)/\ ∃cs,Ab w B v cs/\ ∀j u,cs[j]? =some u->w.cell? ⟨g,off+1+j,none⟩=some u
end
mutual
def Val.bulk:Val->Nat
 | .mk _ _ _ t l o=>6+t.size+Bc l+Ac o
def Bc:List Val->Nat
 | []=>0
 |v::r=>v.bulk+Bc r
def Ac:List (ByteArray×Val)->Nat
 | []=>0
 |p::r=>Dg p+Ac r
def Dg:ByteArray×Val->Nat
 |(key,v)=>1+key.size+v.bulk
end
theorem Val.ind {p:Val->Prop} (h: ∀k b n t l o,(∀v ∈ l,p v)->(∀m ∈ o,p m.2)->p (.mk k b n t l o)): ∀v,p v:=by
 intro v;refine Val.rec (motive_1:=p) (motive_2:=fun l=> ∀v ∈ l,p v) (motive_3:=fun o=> ∀m ∈ o,p m.2) (motive_4:=fun m=>p m.2) ?_ ?_ ?_ ?_ ?_ ?_ v
 . intro k b n t l o hl ho;exact h k b n t l o hl ho
 . intro v hv
   cases hv
 . intro v r hv hr x hx;rcases List.mem_cons.1 hx with rfl|hx
   . exact hv
   . exact hr x hx
 . intro m hm
   cases hm
 . intro m r hm hr x hx;rcases List.mem_cons.1 hx with rfl|hx
   . exact hm
   . exact hr x hx
 . intro k v hv;exact hv
theorem Aj.of_keep {w w':World} {B:Nat} (hk: ∀p:Addr,p.block<B->w'.cell? p=w.cell? p):
 ∀(l:List Val),(∀v ∈ l,∀cs,Ab w B v cs->Ab w' B v cs)-> ∀g off,g<B->Aj w B l g off->Aj w' B l g off
 | [],_,_,_,_,_=>by simp[Aj]
 |v::r,ih,g,off,hg,h=>by
  simp only[Aj]at h ⊢;obtain⟨⟨cs,hv,hc⟩,hr⟩:=h;exact⟨⟨cs,ih v (by simp) cs hv,fun j u hu=>(hk _ hg).trans (hc j u hu)⟩,Aj.of_keep hk r (fun x hx=>ih x (by simp[hx])) g _ hg hr⟩
theorem Ak.of_keep {w w':World} {B:Nat} (hk: ∀p:Addr,p.block<B->w'.cell? p=w.cell? p):
 ∀(l:List (ByteArray×Val)),(∀m ∈ l,∀cs,Ab w B m.2 cs->Ab w' B m.2 cs)-> ∀g off,g<B->Ak w B l g off->Ak w' B l g off
 | [],_,_,_,_,_=>by simp[Ak]
 |(key,v)::r,ih,g,off,hg,h=>by
  simp only[Ak,J5]at h ⊢;obtain⟨⟨h0,cs,hv,hc⟩,hr⟩:=h;exact⟨⟨(hk _ hg).trans h0,cs,ih (key,v) (by simp) cs hv,fun j u hu=>(hk _ hg).trans (hc j u hu)⟩,Ak.of_keep hk r (fun x hx=>ih x (by simp[hx])) g _ hg hr⟩
theorem Ab.keep {w w':World} {B:Nat} (hk: ∀p:Addr,p.block<B->w'.cell? p=w.cell? p): ∀(v:Val) cs,Ab w B v cs->Ab w' B v cs:=by
 refine Val.ind ?_;intro k b n t l o hl ho cs h;simp only[Ab]at h ⊢;obtain⟨la,lc,oa,oc,hcs,h1,h2⟩:=h;refine⟨la,lc,oa,oc,hcs, ?_, ?_⟩
 . rcases h1 with h1|⟨g,off,ha,hg,h1⟩
   . exact .inl h1
   . exact .inr ⟨g,off,ha,hg,Aj.of_keep hk l hl g off hg h1⟩
 . rcases h2 with h2|⟨g,off,ha,hg,h2⟩
   . exact .inl h2
   . exact .inr ⟨g,off,ha,hg,Ak.of_keep hk o ho g off hg h2⟩
theorem Ab.below {w w':World} {B:Nat} {v:Val} {cs:List Value} (h:Ab w B v cs) (hb:Below B w w'):Ab w' B v cs:=Ab.keep (fun _ hp=>hb.cell hp) v cs h
theorem Aj.keep {w w':World} {B:Nat} (hk: ∀p:Addr,p.block<B->w'.cell? p=w.cell? p) {l:List Val} {g off:Nat} (hg:g<B) (h:Aj w B l g off):Aj w' B l g off:=
 Aj.of_keep hk l (fun v _=>Ab.keep hk v) g off hg h
theorem Ak.keep {w w':World} {B:Nat} (hk: ∀p:Addr,p.block<B->w'.cell? p=w.cell? p) {l:List (ByteArray×Val)} {g off:Nat} (hg:g<B) (h:Ak w B l g off):Ak w' B l g off:=
 Ak.of_keep hk l (fun m _=>Ab.keep hk m.2) g off hg h
theorem Aj.below {w w':World} {B:Nat} {l:List Val} {g off:Nat} (hg:g<B) (h:Aj w B l g off) (hb:Below B w w'):Aj w' B l g off:=Aj.keep (fun _ hp=>hb.cell hp) hg h
theorem Ak.below {w w':World} {B:Nat} {l:List (ByteArray×Val)} {g off:Nat} (hg:g<B) (h:Ak w B l g off) (hb:Below B w w'):Ak w' B l g off:=Ak.keep (fun _ hp=>hb.cell hp) hg h
theorem Aj.of_more {w:World} {B B':Nat}: ∀(l:List Val),(∀v ∈ l,∀cs,Ab w B v cs->Ab w B' v cs)-> ∀g off,Aj w B l g off->Aj w B' l g off
 | [],_,_,_,_=>by simp[Aj]
 |v::r,ih,g,off,h=>by
  simp only[Aj]at h ⊢;obtain⟨⟨cs,hv,hc⟩,hr⟩:=h;exact⟨⟨cs,ih v (by simp) cs hv,hc⟩,Aj.of_more r (fun x hx=>ih x (by simp[hx])) g _ hr⟩
theorem Ak.of_more {w:World} {B B':Nat}: ∀(l:List (ByteArray×Val)),(∀m ∈ l,∀cs,Ab w B m.2 cs->Ab w B' m.2 cs)-> ∀g off,Ak w B l g off->Ak w B' l g off
 | [],_,_,_,_=>by simp[Ak]
 |(key,v)::r,ih,g,off,h=>by
  simp only[Ak,J5]at h ⊢;obtain⟨⟨h0,cs,hv,hc⟩,hr⟩:=h;exact⟨⟨h0,cs,ih (key,v) (by simp) cs hv,hc⟩,Ak.of_more r (fun x hx=>ih x (by simp[hx])) g _ hr⟩
theorem Ab.more {w:World} {B B':Nat} (hB:B<=B'): ∀(v:Val) cs,Ab w B v cs->Ab w B' v cs:=by
 refine Val.ind ?_;intro k b n t l o hl ho cs h;simp only[Ab]at h ⊢;obtain⟨la,lc,oa,oc,hcs,h1,h2⟩:=h;refine⟨la,lc,oa,oc,hcs, ?_, ?_⟩
 . rcases h1 with h1|⟨g,off,ha,hg,h1⟩
   . exact .inl h1
   . exact .inr ⟨g,off,ha,by omega,Aj.of_more l hl g off h1⟩
 . rcases h2 with h2|⟨g,off,ha,hg,h2⟩
   . exact .inl h2
   . exact .inr ⟨g,off,ha,by omega,Ak.of_more o ho g off h2⟩
theorem Aj.at_ {w:World} {B:Nat}: ∀{l:List Val} {g off:Nat},Aj w B l g off-> ∀{i:Nat} {v:Val},l[i]? =some v->
 ∃cs,Ab w B v cs/\ ∀j u,cs[j]? =some u->w.cell? ⟨g,off+i*6+j,none⟩=some u
 | [],_,_,_,i,v,hi=>by simp at hi
 |x::r,g,off,h,0,v,hi=>by
  simp only[Aj]at h;obtain⟨h,_⟩:=h;simp at hi;subst hi;simpa using h
 |x::r,g,off,h,i+1,v,hi=>by
  simp only[Aj]at h;obtain⟨cs,hv,hc⟩:=Aj.at_ h.2 (i:=i) (v:=v) (by simpa using hi);exact⟨cs,hv,fun j u hu=>by rw[show off+(i+1)*6+j=off+6+i*6+j from by omega];exact hc j u hu⟩
theorem Ak.at_ {w:World} {B:Nat}: ∀{l:List (ByteArray×Val)} {g off:Nat},Ak w B l g off-> ∀{i:Nat} {m:ByteArray×Val},l[i]? =some m->
 w.cell? ⟨g,off+i*7,none⟩=some (.string m.1)/\ ∃cs,Ab w B m.2 cs/\ ∀j u,cs[j]? =some u->w.cell? ⟨g,off+i*7+1+j,none⟩=some u
 | [],_,_,_,i,v,hi=>by simp at hi
 |x::r,g,off,h,0,v,hi=>by
  simp only[Ak]at h;obtain⟨h,_⟩:=h;simp at hi;subst hi;obtain⟨key,v⟩:=x;simpa only[J5,Nat.zero_mul,Nat.add_zero]using h
 |x::r,g,off,h,i+1,m,hi=>by
  simp only[Ak]at h;obtain⟨h0,cs,hv,hc⟩:=Ak.at_ h.2 (i:=i) (m:=m) (by simpa using hi);exact⟨by rw[show off+(i+1)*7=off+7+i*7 from by omega];exact h0,cs,hv,fun j u hu=>by rw[show off+(i+1)*7+1+j=off+7+i*7+1+j from by omega];exact hc j u hu⟩
theorem Aj.six {w:World} {B:Nat} {l:List Val} {g off:Nat} (h:Aj w B l g off) {i:Nat} {k:Int} {b:Bool} {n:Int} {t:ByteArray} {l':List Val} {o':List (ByteArray×Val)} (hi:l[i]? =some (.mk k b n t l' o')):
 ∃la lc oa oc,Ab w B (.mk k b n t l' o') (Dk k b n t la l'.length lc oa o'.length oc)/\w.cell? ⟨g,off+i*6,none⟩=some (.int .i64 k)/\w.cell? ⟨g,off+i*6+1,none⟩=some (.bool b)/\
  w.cell? ⟨g,off+i*6+2,none⟩=some (.int .i64 n)/\w.cell? ⟨g,off+i*6+3,none⟩=some (.string t)/\w.cell? ⟨g,off+i*6+4,none⟩=some (.slice la l'.length lc)/\
  w.cell? ⟨g,off+i*6+5,none⟩=some (.slice oa o'.length oc):=by
 obtain⟨cs,hv,hc⟩:=h.at_ hi;have hv':=hv;simp only[Ab]at hv';obtain⟨la,lc,oa,oc,rfl,_,_⟩:=hv';exact⟨la,lc,oa,oc,hv,hc 0 _ rfl,hc 1 _ rfl,hc 2 _ rfl,hc 3 _ rfl,hc 4 _ rfl,hc 5 _ rfl⟩
theorem Ak.seven {w:World} {B:Nat} {l:List (ByteArray×Val)} {g off:Nat} (h:Ak w B l g off) {i:Nat} {key:ByteArray} {k:Int} {b:Bool} {n:Int} {t:ByteArray} {l':List Val} {o':List (ByteArray×Val)} (hi:l[i]? =some (key,.mk k b n t l' o')):
 ∃la lc oa oc,Ab w B (.mk k b n t l' o') (Dk k b n t la l'.length lc oa o'.length oc)/\w.cell? ⟨g,off+i*7,none⟩=some (.string key)/\w.cell? ⟨g,off+i*7+1,none⟩=some (.int .i64 k)/\w.cell? ⟨g,off+i*7+2,none⟩=some (.bool b)/\
  w.cell? ⟨g,off+i*7+3,none⟩=some (.int .i64 n)/\w.cell? ⟨g,off+i*7+4,none⟩=some (.string t)/\w.cell? ⟨g,off+i*7+5,none⟩=some (.slice la l'.length lc)/\
  w.cell? ⟨g,off+i*7+6,none⟩=some (.slice oa o'.length oc):=by
 obtain⟨h0,cs,hv,hc⟩:=h.at_ hi;have hv':=hv;simp only[Ab]at hv';obtain⟨la,lc,oa,oc,rfl,_,_⟩:=hv';exact⟨la,lc,oa,oc,hv,h0,hc 0 _ rfl,hc 1 _ rfl,hc 2 _ rfl,hc 3 _ rfl,hc 4 _ rfl,hc 5 _ rfl⟩
theorem Da {l:List Val} {v:Val} (h:v ∈ l):v.bulk<=Bc l:=by
 induction l with
 |nil=>cases h
 |cons x r ih=>
  simp only[Bc];rcases List.mem_cons.1 h with rfl|h
  . omega
  . have:=ih h;omega
theorem B4 {l:List (ByteArray×Val)} {m:ByteArray×Val} (h:m ∈ l):1+m.1.size+m.2.bulk<=Ac l:=by
 induction l with
 |nil=>cases h
 |cons x r ih=>
  obtain⟨k,v⟩:=x;simp only[Ac,Dg];rcases List.mem_cons.1 h with rfl|h
  . simp only;omega
  . have:=ih h;omega
theorem Val.bulk_pos (v:Val):6<=v.bulk:=by
 obtain⟨k,b,n,t,l,o⟩:=v;simp only[Val.bulk];omega
theorem Ct (l:List Val):6*l.length<=Bc l:=by
 induction l with
 |nil=>simp[Bc]
 |cons x r ih=>simp only[Bc,List.length_cons];have:=x.bulk_pos;omega
theorem Aw (l:List (ByteArray×Val)):7*l.length<=Ac l:=by
 induction l with
 |nil=>simp[Ac]
 |cons x r ih=>obtain⟨k,v⟩:=x;simp only[Ac,Dg,List.length_cons];have:=v.bulk_pos;omega
mutual
def M4:Val->Prop
 | .mk _ _ n _ l o=>(-9223372036854775808<=n/\n<=9223372036854775807)/\U0 l/\J2 o
def U0:List Val->Prop
 | []=>True
 |v::r=>M4 v/\U0 r
def J2:List (ByteArray×Val)->Prop
 | []=>True
 |p::r=>inP p/\J2 r
def inP:ByteArray×Val->Prop
 |(_,v)=>M4 v
end
inductive D where
 |leaf (v:Value)
 |agg (l:List D)
 |row (s:Nat) (l:List D)
mutual
def D.cells:D->Nat
 | .leaf _=>1
 | .agg l=>Jf l
 | .row _ _=>1
def Jf:List D->Nat
 | []=>0
 |d::r=>d.cells+Jf r
end
mutual
def Ae (w:World) (B:Nat):D->List Value->Prop
 | .leaf v,cs=>cs= [v]/\v.oneCell'=true
 | .agg l,cs=>Af w B l cs
 | .row s l,cs=> ∃a c,cs= [.slice a l.length c]/\(∀d ∈ l,d.cells=s)/\ ∃ns,Af w B l ns/\(l= []\/ ∃g off,a=some ⟨g,off,none⟩/\g<B/\ ∀j u,ns[j]? =some u->w.cell? ⟨g,off+j,none⟩=some u)
def Af (w:World) (B:Nat):List D->List Value->Prop
 | [],cs=>cs= []
 |d::r,cs=> ∃c1 c2,cs=c1++c2/\Ae w B d c1/\Af w B r c2
end
theorem D.ind {p:D->Prop} (h0: ∀v,p (.leaf v)) (h1: ∀l,(∀d ∈ l,p d)->p (.agg l)) (h2: ∀s l,(∀d ∈ l,p d)->p (.row s l)): ∀d,p d:=by
 intro d;refine D.rec (motive_1:=p) (motive_2:=fun l=> ∀d ∈ l,p d) h0 h1 h2 ?_ ?_ d
 . intro d hd
   cases hd
 . intro d r hd hr x hx;rcases List.mem_cons.1 hx with rfl|hx
   . exact hd
   . exact hr x hx
theorem Af.len_of {w:World} {B:Nat}: ∀{l:List D},(∀d ∈ l,∀cs,Ae w B d cs->cs.length=d.cells/\ ∀u ∈ cs,u.oneCell'=true)-> ∀{cs},Af w B l cs->cs.length=Jf l/\ ∀u ∈ cs,u.oneCell'=true
 | [],_,cs,h=>by
   have:cs= []:=h;subst this;exact⟨rfl,fun u hu=>by cases hu⟩
 |d::r,ih,cs,h=>by
  obtain⟨c1,c2,rfl,h1,h2⟩:=h;obtain⟨a1,a2⟩:=ih d (by simp) c1 h1;obtain⟨b1,b2⟩:=Af.len_of (fun x hx=>ih x (by simp[hx])) h2;refine⟨by simp only[List.length_append,Jf,a1,b1],fun u hu=> ?_⟩;rcases List.mem_append.1 hu with hu|hu
  . exact a2 u hu
  . exact b2 u hu
theorem Ae.len {w:World} {B:Nat}: ∀{d:D} {cs},Ae w B d cs->cs.length=d.cells/\ ∀u ∈ cs,u.oneCell'=true:=by
 intro d;refine D.ind (p:=fun d=> ∀{cs},Ae w B d cs->cs.length=d.cells/\ ∀u ∈ cs,u.oneCell'=true) ?_ ?_ ?_ d
 . intro v cs h;obtain⟨rfl,hv⟩:=h;exact⟨rfl,fun u hu=>by simp at hu;rw[hu];exact hv⟩
 . intro l ih cs h;exact Af.len_of (fun d hd _=>ih d hd) h
 . intro s l _ cs h;obtain⟨a,c,rfl,_⟩:=h;exact⟨rfl,fun u hu=>by simp at hu;rw[hu];rfl⟩
theorem Af.len {w:World} {B:Nat} {l:List D} {cs:List Value} (h:Af w B l cs):cs.length=Jf l/\ ∀u ∈ cs,u.oneCell'=true:=Af.len_of (fun _ _ _ hd=>hd.len) h
theorem D5 {s:Nat}: ∀{l:List D},(∀d ∈ l,d.cells=s)->Jf l=l.length*s
 | [],_=>by simp[Jf]
 |d::r,h=>by
  have h1:=h d (by simp);have h2:=D5 (l:=r) (fun x hx=>h x (by simp[hx]));simp only[Jf,List.length_cons,Nat.add_mul,Nat.one_mul];omega
theorem Af.imp {w w':World} {B B':Nat}: ∀{l:List D},(∀d ∈ l,∀cs,Ae w B d cs->Ae w' B' d cs)-> ∀{cs},Af w B l cs->Af w' B' l cs
 | [],_,_,h=>h
 |d::r,ih,cs,h=>by
  obtain⟨c1,c2,e,h1,h2⟩:=h;exact⟨c1,c2,e,ih d (by simp) c1 h1,Af.imp (fun x hx=>ih x (by simp[hx])) h2⟩
theorem Ae.imp {w w':World} {B B':Nat} (hB:B<=B') (hk: ∀p:Addr,p.block<B->w'.cell? p=w.cell? p): ∀{d:D} {cs},Ae w B d cs->Ae w' B' d cs:=by
 intro d;refine D.ind (p:=fun d=> ∀{cs},Ae w B d cs->Ae w' B' d cs) ?_ ?_ ?_ d
 . intro v cs h;exact h
 . intro l ih cs h;exact Af.imp (fun d hd _=>ih d hd) h
 . intro s l ih cs h;obtain⟨a,c,e,hs,ns,h1,h2⟩:=h;refine⟨a,c,e,hs,ns,Af.imp (fun d hd _=>ih d hd) h1, ?_⟩;rcases h2 with h2|⟨g,off,ea,hg,hcell⟩
   . exact .inl h2
   . exact .inr ⟨g,off,ea,by omega,fun j u hu=>(hk _ hg).trans (hcell j u hu)⟩
theorem Ae.keep {w w':World} {B:Nat} {d:D} {cs:List Value} (h:Ae w B d cs) (hk: ∀p:Addr,p.block<B->w'.cell? p=w.cell? p):Ae w' B d cs:=h.imp (Nat.le_refl _) hk
theorem Ae.below {w w':World} {B:Nat} {d:D} {cs:List Value} (h:Ae w B d cs) (hb:Below B w w'):Ae w' B d cs:=h.keep fun _ hp=>hb.cell hp
theorem Ae.more {w:World} {B B':Nat} {d:D} {cs:List Value} (h:Ae w B d cs) (hB:B<=B'):Ae w B' d cs:=h.imp hB fun _ _=>rfl
theorem Af.keep {w w':World} {B:Nat} {l:List D} {cs:List Value} (h:Af w B l cs) (hk: ∀p:Addr,p.block<B->w'.cell? p=w.cell? p):Af w' B l cs:=Af.imp (fun _ _ _ hd=>hd.keep hk) h
theorem Af.below {w w':World} {B:Nat} {l:List D} {cs:List Value} (h:Af w B l cs) (hb:Below B w w'):Af w' B l cs:=h.keep fun _ hp=>hb.cell hp
theorem Af.more {w:World} {B B':Nat} {l:List D} {cs:List Value} (h:Af w B l cs) (hB:B<=B'):Af w B' l cs:=Af.imp (fun _ _ _ hd=>hd.more hB) h
theorem Ae.later {w w':World} {d:D} {cs:List Value} (h:Ae w w.heap.size d cs) (hb:Below w.heap.size w w'):Ae w' w'.heap.size d cs:=(h.below hb).more hb.size
theorem Af.later {w w':World} {l:List D} {cs:List Value} (h:Af w w.heap.size l cs) (hb:Below w.heap.size w w'):Af w' w'.heap.size l cs:=(h.below hb).more hb.size
theorem Af.app {w:World} {B:Nat}: ∀{a b:List D} {ns ms:List Value},Af w B a ns->Af w B b ms->Af w B (a++b) (ns++ms)
 | [],b,ns,ms,h,h'=>by
   have:ns= []:=h;subst this;exact h'
 |d::r,b,ns,ms,h,h'=>by
  obtain⟨c1,c2,rfl,h1,h2⟩:=h;exact⟨c1,c2++ms,by simp,h1,Af.app h2 h'⟩
theorem Af.one {w:World} {B:Nat} {d:D} {cs:List Value} (h:Ae w B d cs):Af w B [d] cs:=⟨cs, [],by simp,h,rfl⟩
theorem Af.snoc {w:World} {B:Nat} {l:List D} {d:D} {ns cs:List Value} (h:Af w B l ns) (hd:Ae w B d cs):Af w B (l++ [d]) (ns++cs):=h.app (Af.one hd)
theorem Af.split {w:World} {B s:Nat}: ∀{l:List D} {ns:List Value} (k:Nat),(∀d ∈ l,d.cells=s)->Af w B l ns->Af w B (l.take k) (ns.take (k*s))/\Af w B (l.drop k) (ns.drop (k*s))
 | [],ns,k,_,h=>by
   have:ns= []:=h;subst this;simp[Af]
 |d::r,ns,0,_,h=>by
  simp only[List.take_zero,Nat.zero_mul,List.drop_zero];exact⟨rfl,h⟩
 |d::r,ns,k+1,hs,h=>by
  obtain⟨c1,c2,rfl,h1,h2⟩:=h;obtain⟨a,b⟩:=Af.split k (fun x hx=>hs x (by simp[hx])) h2;have hl:c1.length=s:=h1.len.1.trans (hs d (by simp));have e1:(c1++c2).take ((k+1)*s)=c1++c2.take (k*s):=by
   rw[List.take_append,List.take_of_length_le (by rw[hl,Nat.add_mul];omega),hl,Nat.add_mul,Nat.one_mul,Nat.add_sub_cancel]
  have e2:(c1++c2).drop ((k+1)*s)=c2.drop (k*s):=by
   rw[List.drop_append,List.drop_eq_nil_of_le (by rw[hl,Nat.add_mul];omega),hl,Nat.add_mul,Nat.one_mul,Nat.add_sub_cancel,List.nil_append]
  rw[e1,e2];exact⟨⟨c1,c2.take (k*s),rfl,h1,a⟩,b⟩
theorem Af.at_ {w:World} {B s:Nat} {l:List D} {ns:List Value} (hs: ∀d ∈ l,d.cells=s) (h:Af w B l ns) {i:Nat} {d:D} (hi:l[i]? =some d):
 ∃cs,Ae w B d cs/\cs.length=s/\ ∀j u,cs[j]? =some u->ns[i*s+j]? =some u:=by
 obtain⟨_,h2⟩:=Af.split i hs h;obtain⟨hlt,rfl⟩:=List.getElem?_eq_some_iff.1 hi;rw[List.drop_eq_getElem_cons hlt]at h2;obtain⟨c1,c2,e,h3,_⟩:=h2;have hl:c1.length=s:=h3.len.1.trans (hs _ (List.getElem_mem hlt));refine⟨c1,h3,hl,fun j u hu=> ?_⟩;have h5:=(List.getElem?_eq_some_iff.1 hu).1;have h4:(ns.drop (i*s))[j]? =some u:=by
  rw[e,List.getElem?_append_left h5];exact hu
 rwa [List.getElem?_drop]at h4
theorem Ae.at_ {w:World} {B s:Nat} {l:List D} {a:Option Addr} {n c:Nat} (h:Ae w B (.row s l) [.slice a n c]) {i:Nat} {d:D} (hi:l[i]? =some d):
 ∃g off,a=some ⟨g,off,none⟩/\g<B/\ ∃cs,Ae w B d cs/\cs.length=s/\ ∀j u,cs[j]? =some u->w.cell? ⟨g,off+i*s+j,none⟩=some u:=by
 obtain⟨a',c',e,hs,ns,h1,h2⟩:=h;simp only[List.cons.injEq,Value.slice.injEq,and_true]at e;obtain⟨rfl,rfl,rfl⟩:=e;rcases h2 with rfl|⟨g,off,ea,hg,hcell⟩
 . simp at hi
 . obtain⟨cs,h3,h4,h5⟩:=h1.at_ hs hi;exact⟨g,off,ea,hg,cs,h3,h4,fun j u hu=>by rw[Nat.add_assoc];exact hcell _ u (h5 j u hu)⟩
theorem Ae.row_len {w:World} {B s:Nat} {l:List D} {a:Option Addr} {n c:Nat} (h:Ae w B (.row s l) [.slice a n c]):n=l.length:=by
 obtain⟨a',c',e,_⟩:=h;simp only[List.cons.injEq,Value.slice.injEq,and_true]at e;obtain⟨rfl,rfl,rfl⟩:=e;exact rfl
def Bv (b:Nat) (w':World) (d:D) (cs:List Value):Prop:=
 ∀w'':World,w'.heap.size<=w''.heap.size->(∀p:Addr,b<=p.block->p.block<w'.heap.size->w''.cell? p=w'.cell? p)->Ae w'' w'.heap.size d cs
def G1 (b:Nat) (w':World) (l:List D) (cs:List Value):Prop:=
 ∀w'':World,w'.heap.size<=w''.heap.size->(∀p:Addr,b<=p.block->p.block<w'.heap.size->w''.cell? p=w'.cell? p)->Af w'' w'.heap.size l cs
theorem Bv.now {b:Nat} {w':World} {d:D} {cs:List Value} (h:Bv b w' d cs):Ae w' w'.heap.size d cs:=h w' (Nat.le_refl _) fun _ _ _=>rfl
theorem G1.now {b:Nat} {w':World} {l:List D} {cs:List Value} (h:G1 b w' l cs):Af w' w'.heap.size l cs:=h w' (Nat.le_refl _) fun _ _ _=>rfl
theorem G1.nil (b:Nat) (w':World):G1 b w' [] []:=fun _ _ _=>rfl
theorem G1.keep {b:Nat} {wr w':World} {l:List D} {ns:List Value} (h:G1 b wr l ns) (hs:wr.heap.size<=w'.heap.size) (hk: ∀p:Addr,b<=p.block->p.block<wr.heap.size->w'.cell? p=wr.cell? p):G1 b w' l ns:=
 fun w'' h1 h2=>Af.more (h w'' (Nat.le_trans hs h1) (fun p p1 p2=>(h2 p p1 (Nat.lt_of_lt_of_le p2 hs)).trans (hk p p1 p2))) hs
theorem Bv.keep {b b':Nat} {wr w':World} {d:D} {ns:List Value} (h:Bv b wr d ns) (hb:b'<=b) (hs:wr.heap.size<=w'.heap.size) (hk: ∀p:Addr,b<=p.block->p.block<wr.heap.size->w'.cell? p=wr.cell? p):Bv b' w' d ns:=
 fun w'' h1 h2=>Ae.more (h w'' (Nat.le_trans hs h1) (fun p p1 p2=>(h2 p (Nat.le_trans hb p1) (Nat.lt_of_lt_of_le p2 hs)).trans (hk p p1 p2))) hs
theorem Bv.later {b:Nat} {w w':World} {d:D} {ns:List Value} (h:Bv b w d ns) (hb:Below w.heap.size w w'):Bv b w' d ns:=h.keep (Nat.le_refl _) hb.size fun _ _ p2=>hb.cell p2
theorem G1.later {b:Nat} {w w':World} {l:List D} {ns:List Value} (h:G1 b w l ns) (hb:Below w.heap.size w w'):G1 b w' l ns:=h.keep hb.size fun _ _ p2=>hb.cell p2
theorem G1.row {b s:Nat} {w':World} {l:List D} {ns:List Value} {a:Option Addr} {c:Nat} (h:G1 b w' l ns) (hs: ∀d ∈ l,d.cells=s)
 (ha:l= []\/ ∃g off,a=some ⟨g,off,none⟩/\b<=g/\g<w'.heap.size/\ ∀j u,ns[j]? =some u->w'.cell? ⟨g,off+j,none⟩=some u):Bv b w' (.row s l) [.slice a l.length c]:=by
 intro w'' h1 h2;refine⟨a,c,rfl,hs,ns,h w'' h1 h2, ?_⟩;rcases ha with ha|⟨g,off,e,hbg,hg,hcell⟩
 . exact .inl ha
 . exact .inr ⟨g,off,e,hg,fun j u hu=>(h2 _ hbg hg).trans (hcell j u hu)⟩
end Go.Proofs.YtnkmhaachfgaoaaGreatDoor
