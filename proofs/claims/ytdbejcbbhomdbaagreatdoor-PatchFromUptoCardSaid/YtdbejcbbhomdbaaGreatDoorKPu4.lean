/- Parts: slices.Insert of one element, an entry, in a slice of the call's own. Condition: at most 1000 elements. Printed by mkins.py. -/
import Derived.Shelf.Spec.SlicesInsertGrow
import Derived.Test.YtdbejcbbhomdbaaGreatDoorKPu1
import Derived.Test.YtdbejcbbhomdbaaGreatDoorKPu2
import Derived.Test.YtdbejcbbhomdbaaGreatDoorKPu3
set_option maxHeartbeats 20000000
set_option maxRecDepth 100000
namespace Go.Proofs.YtdbejcbbhomdbaaGreatDoor
abbrev A0:=ByteArray×Val
inductive Nd where
 |leaf (es:List A0)
 |inner (ks:List Nd)
theorem Nd.ind {p:Nd->Prop} (h0: ∀es,p (.leaf es)) (h1: ∀ks,(∀k ∈ ks,p k)->p (.inner ks)): ∀n,p n:=by
 intro n;refine Nd.rec (motive_1:=p) (motive_2:=fun l=> ∀d ∈ l,p d) h0 h1 ?_ ?_ n
 . intro d hd
   cases hd
 . intro d r hd hr x hx;rcases List.mem_cons.1 hx with rfl|hx
   . exact hd
   . exact hr x hx
mutual
def By:Nd->List A0
 | .leaf es=>es
 | .inner ks=>As ks
def As:List Nd->List A0
 | []=> []
 |k::r=>By k++As r
end
theorem Bo: ∀(a b:List Nd),As (a++b)=As a++As b
 | [],b=>rfl
 |x::r,b=>by simp only[List.cons_append,As,Bo r b,List.append_assoc]
theorem L4 (x:Nd):As [x]=By x:=by simp[As]
theorem Z0 {x:Nd} {l:List Nd} (h:x ∈ l): ∀e ∈ By x,e ∈ As l:=by
 induction l with
 |nil=>cases h
 |cons y r ih=>
  intro e he;simp only[As];rcases List.mem_cons.1 h with rfl|h
  . exact List.mem_append_left _ he
  . exact List.mem_append_right _ (ih h e he)
def A7 (k:ByteArray) (v:Val):List A0->List A0
 | []=> [(k,v)]
 |(a,x)::r=>if Bq a k then(a,x)::A7 k v r else if a=k then(k,v)::r else(k,v)::(a,x)::r
theorem Na {k:ByteArray} {v:Val} {B:List A0}: ∀{A:List A0},(∀a ∈ A,Bq a.1 k=true)->A7 k v (A++B)=A++A7 k v B
 | [],_=>rfl
 |(a,x)::r,h=>by
  have h1:Bq a k=true:=h (a,x) (by simp);simp only[List.cons_append,A7];rw[if_pos h1,Na fun y hy=>h y (List.mem_cons_of_mem _ hy)]
theorem Wh {k:ByteArray} {v:Val}: ∀{C:List A0},(∀c ∈ C,Bq k c.1=true)->A7 k v C=(k,v)::C
 | [],_=>rfl
 |(a,x)::r,h=>by
  have h1:Bq k a=true:=h (a,x) (by simp);simp only[A7];rw[if_neg (by rw[J8 h1];simp),if_neg];rintro rfl;rw[Cm]at h1
  cases h1
theorem K4 {k:ByteArray} {v:Val} {C:List A0} (h: ∀c ∈ C,Bq k c.1=true): ∀{B:List A0},A7 k v (B++C)=A7 k v B++C
 | []=>by rw[List.nil_append,Wh h];rfl
 |(a,x)::r=>by
  simp only[List.cons_append,A7];by_cases h1:Bq a k=true
  . rw[if_pos h1,if_pos h1,K4 h];rfl
  . rw[if_neg h1,if_neg h1];by_cases h2:a=k
    . rw[if_pos h2,if_pos h2];rfl
    . rw[if_neg h2,if_neg h2];rfl
theorem Fk {k:ByteArray} {v:Val}: ∀(l:List A0),(A7 k v l).length<=l.length+1/\0<(A7 k v l).length
 | []=>by simp[A7]
 |(a,x)::r=>by
  simp only[A7];have ih:=Fk (k:=k) (v:=v) r;by_cases h1:Bq a k=true
  . rw[if_pos h1];simp;omega
  . rw[if_neg h1];by_cases h2:a=k
    . rw[if_pos h2];simp
    . rw[if_neg h2];simp
theorem Se {k:ByteArray} {v:Val}: ∀{l:List A0} {e:A0},e ∈ A7 k v l->e=(k,v)\/e ∈ l
 | [],e,h=>by simp[A7]at h;exact .inl h
 |(a,x)::r,e,h=>by
  simp only[A7]at h;by_cases h1:Bq a k=true
  . rw[if_pos h1]at h;rcases List.mem_cons.1 h with rfl|h
    . exact .inr (by simp)
    . rcases Se h with h|h
      . exact .inl h
      . exact .inr (List.mem_cons_of_mem _ h)
  . rw[if_neg h1]at h;by_cases h2:a=k
    . rw[if_pos h2]at h;rcases List.mem_cons.1 h with h|h
      . exact .inl h
      . exact .inr (List.mem_cons_of_mem _ h)
    . rw[if_neg h2]at h;rcases List.mem_cons.1 h with h|h
      . exact .inl h
      . exact .inr h
theorem Ge {k:ByteArray} {v:Val}: ∀{l:List A0},Bb l->Bb (A7 k v l)
 | [],_=>by simp[A7,Bb]
 |(a,x)::r,h=>by
  obtain⟨h1,h2⟩:=List.pairwise_cons.1 h;simp only[A7];by_cases hak:Bq a k=true
  . rw[if_pos hak];refine List.pairwise_cons.2 ⟨fun e he=> ?_,Ge h2⟩;rcases Se he with rfl|he
    . exact hak
    . exact h1 e he
  . rw[if_neg hak];by_cases e:a=k
    . subst e;rw[if_pos rfl];exact List.pairwise_cons.2 ⟨h1,h2⟩
    . rw[if_neg e];have hka:Bq k a=true:=by
       rcases D9 a k with h|h|h
       . exact absurd h hak
       . exact absurd h e
       . exact h
      refine List.pairwise_cons.2 ⟨fun y hy=> ?_,h⟩;rcases List.mem_cons.1 hy with rfl|hy
      . exact hka
      . exact A9 hka (h1 y hy)
def Ej:Nat->Nat->Nd->Prop
 |lo,0,.leaf es=>lo<=es.length/\es.length<=8
 |lo,h+1,.inner ks=>lo<=ks.length/\ks.length<=8/\ ∀k ∈ ks,Ej 4 h k
 |_,_,_=>False
theorem U5 {a b:Nat} (hab:a<=b): ∀{h:Nat} {n:Nd},Ej b h n->Ej a h n
 |0,.leaf es,h=>⟨by have:=h.1;omega,h.2⟩
 |0,.inner ks,h=>absurd h (by simp[Ej])
 |_+1,.leaf es,hn=>absurd hn (by simp[Ej])
 |_+1,.inner ks,hn=>by
  simp only[Ej]at hn ⊢;exact⟨by omega,hn.2⟩
theorem Jo: ∀{h:Nat} {n:Nd} {lo:Nat},0<lo->Ej lo h n->By n≠ []
 |0,.leaf es,_,h0,h=>by
  intro e;have h1:=h.1;have:es= []:=e;rw[this]at h1;simp at h1;omega
 |0,.inner ks,_,_,h=>absurd h (by simp[Ej])
 |h+1,.leaf es,_,_,hn=>absurd hn (by simp[Ej])
 |h+1,.inner ks,_,h0,hn=>by
  simp only[Ej]at hn;obtain⟨h1,_,h3⟩:=hn
  match ks,h1 with
  | [],h1=>simp at h1;omega
  |x::r,_=>
   have:=Jo (by omega) (h3 x (by simp));simp only[By,As];intro e;exact this (List.append_eq_nil_iff.1 e).1
def Al (n:Nd):ByteArray:=((By n).head?.map (·.1)).getD ByteArray.empty
theorem Dx {n:Nd} (h:By n≠ []): ∃x r,By n=(Al n,x)::r:=by
 unfold Al
 match hn:By n,h with
 |(a,x)::r,_=>exact⟨x,r,rfl⟩
def At (ks:List Nd) (k:ByteArray):Nat:=ks.findIdx (fun n=>Bq k (Al n)) - 1
def Ey:List Nd->Nd
 | [x]=>x
 |ks=> .inner ks
theorem Gm {ks:List Nd} (h:2<=ks.length):Ey ks=.inner ks:=by
 match ks,h with
 |x::y::r,_=>rfl
def Ee (l:List A0):Nd×Option Nd:=if l.length<=8 then(.leaf l,none)else(.leaf (l.take 4),some (.leaf (l.drop 4)))
def Ef (l:List Nd):Nd×Option Nd:=if l.length<=8 then(Ey l,none)else(Ey (l.take 4),some (Ey (l.drop 4)))
def Bu:Nat->Nd->ByteArray->Val->Nd×Option Nd
 |0,n,k,v=>Ee (A7 k v (By n))
 |_+1,.leaf es,k,v=>Ee (A7 k v es)
 |h+1,.inner ks,k,v=>Ef (ks.take (At ks k)++(Bu h (ks.getD (At ks k) (.leaf [])) k v).1::((Bu h (ks.getD (At ks k) (.leaf [])) k v).2.toList++ks.drop (At ks k+1)))
def X0 (r:Nd×Option Nd):List A0:=By r.1++As r.2.toList
theorem Kl {ks:List Nd} {k:ByteArray} {h:Nat} (h2:ks≠ []) (hk: ∀x ∈ ks,Ej 4 h x) (ha:Bb (As ks)):
 ∃A x C,ks=A++x::C/\A.length=At ks k/\(∀a ∈ As A,Bq a.1 k=true)/\(∀c ∈ As C,Bq k c.1=true):=by
 have hlt:At ks k<ks.length:=by
  have:=List.findIdx_le_length (xs:=ks) (p:=fun n=>Bq k (Al n));have:0<ks.length:=List.length_pos_iff.2 h2;unfold At;omega
 refine⟨ks.take (At ks k),ks[At ks k],ks.drop (At ks k+1), ?_,by rw[List.length_take];omega, ?_, ?_⟩
 . rw[List.getElem_cons_drop,List.take_append_drop]
 . intro a haa;have hj:At ks k≠0:=by
    intro e;rw[e]at haa;simp[As]at haa
   have hx:Bq k (Al ks[At ks k])=false:=by
    have:=List.not_of_lt_findIdx (xs:=ks) (p:=fun n=>Bq k (Al n)) (i:=At ks k) (by unfold At at hj ⊢;omega);simpa using this
   obtain⟨v,r,hf⟩:=Dx (Jo (by omega) (hk ks[At ks k] (List.getElem_mem hlt)));have e:ks=ks.take (At ks k)++ks[At ks k]::ks.drop (At ks k+1):=by rw[List.getElem_cons_drop,List.take_append_drop]
   have ha':=ha;rw[e,Bo]at ha';have h3:=(List.pairwise_append.1 ha').2.2 a haa (Al ks[At ks k],v) (by simp only[As];rw[hf];simp);rcases D9 (Al ks[At ks k]) k with h|h|h
   . exact A9 h3 h
   . rw[<-h];exact h3
   . rw[hx]at h;cases h
 . intro c hc;have e:ks=ks.take (At ks k)++ks[At ks k]::ks.drop (At ks k+1):=by rw[List.getElem_cons_drop,List.take_append_drop]
   have ha':=ha;rw[e,Bo]at ha';have ha2:=(List.pairwise_append.1 ha').2.1;simp only[As]at ha2;by_cases hj:ks.findIdx (fun n=>Bq k (Al n))=0
   . have hw:At ks k=0:=by unfold At;omega
     have hp:Bq k (Al ks[At ks k])=true:=by
      have:=List.findIdx_getElem (xs:=ks) (p:=fun n=>Bq k (Al n)) (w:=by rw[hj];exact List.length_pos_iff.2 h2);simp only[hj]at this;simpa[hw]using this
     obtain⟨v,r,hf⟩:=Dx (Jo (by omega) (hk ks[At ks k] (List.getElem_mem hlt)));have h3:=(List.pairwise_append.1 ha2).2.2 (Al ks[At ks k],v) (by rw[hf];simp) c hc;exact A9 hp h3
   . have hw:At ks k+1=ks.findIdx (fun n=>Bq k (Al n)):=by unfold At;omega
     rw[hw]at hc ha2;by_cases hl:ks.findIdx (fun n=>Bq k (Al n))<ks.length
     . have hp:Bq k (Al ks[ks.findIdx (fun n=>Bq k (Al n))])=true:=List.findIdx_getElem (xs:=ks) (p:=fun n=>Bq k (Al n)) (w:=hl);have ha3:=(List.pairwise_append.1 ha2).2.1;rw[List.drop_eq_getElem_cons hl]at hc ha3;simp only[As]at hc ha3;obtain⟨v,r,hf⟩:=Dx (Jo (by omega) (hk _ (List.getElem_mem hl)));rw[hf]at hc ha3;rw[List.cons_append]at hc ha3;rcases List.mem_cons.1 hc with rfl|hc
       . exact hp
       . exact A9 hp ((List.pairwise_cons.1 ha3).1 c hc)
     . rw[List.drop_eq_nil_of_le (by omega)]at hc;simp[As]at hc
def okR (lo h:Nat) (r:Nd×Option Nd):Prop:=Ej lo h r.1/\ ∀m,r.2=some m->Ej 4 h r.1/\Ej 4 h m
theorem Ww {l:List A0} {lo:Nat} (h4:lo<=4) (h0:lo<=l.length) (h9:l.length<=9):X0 (Ee l)=l/\okR lo 0 (Ee l):=by
 unfold Ee;by_cases h:l.length<=8
 . rw[if_pos h];exact⟨by simp[X0,By,As],⟨h0,h⟩,fun m e=>by cases e⟩
 . rw[if_neg h];have ha:Ej 4 0 (.leaf (l.take 4)):=⟨by rw[List.length_take];omega,by rw[List.length_take];omega⟩;refine⟨by simp[X0,By,As],U5 h4 ha,fun m e=>⟨ha, ?_⟩⟩
   cases e
   exact⟨by rw[List.length_drop];omega,by rw[List.length_drop];omega⟩
theorem Wx {l:List Nd} {h lo:Nat} (h4:lo<=4) (h0:lo<=l.length) (h2:2<=l.length) (h9:l.length<=9) (hk: ∀x ∈ l,Ej 4 h x):X0 (Ef l)=As l/\okR lo (h+1) (Ef l):=by
 unfold Ef;by_cases h8:l.length<=8
 . rw[if_pos h8,Gm h2];exact⟨by simp[X0,By,As],⟨h0,h8,hk⟩,fun m e=>by cases e⟩
 . rw[if_neg h8,Gm (by rw[List.length_take];omega),Gm (by rw[List.length_drop];omega)];have ha:Ej 4 (h+1) (.inner (l.take 4)):=⟨by rw[List.length_take];omega,by rw[List.length_take];omega,fun x hx=>hk x (List.mem_of_mem_take hx)⟩;refine⟨?_,U5 h4 ha,fun m e=>⟨ha, ?_⟩⟩
   . simp only[X0,Option.toList,L4,By];rw[<-Bo,List.take_append_drop]
   . cases e
     exact⟨by rw[List.length_drop];omega,by rw[List.length_drop];omega,fun x hx=>hk x (List.mem_of_mem_drop hx)⟩
theorem U9 {k:ByteArray} {v:Val}: ∀(l:List A0),l.length<=(A7 k v l).length
 | []=>by simp
 |(a,x)::r=>by
  have ih:=U9 (k:=k) (v:=v) r;simp only[A7];by_cases h1:Bq a k=true
  . rw[if_pos h1];simp;omega
  . rw[if_neg h1];by_cases h2:a=k
    . rw[if_pos h2];simp
    . rw[if_neg h2];simp
theorem Km: ∀(h:Nat) {n:Nd} {lo:Nat} {k:ByteArray} {v:Val},lo<=4->0<lo\/h=0->(0<h->2<=lo)->Ej lo h n->Bb (By n)->X0 (Bu h n k v)=A7 k v (By n)/\okR lo h (Bu h n k v)
 |0,.leaf es,lo,k,v,h4,_,_,hn,_=>by
  have hl:=Fk (k:=k) (v:=v) es;have hg:=U9 (k:=k) (v:=v) es;have h1:=hn.1;have h2:=hn.2;simp only[Bu,By];exact Ww h4 (by omega) (by omega)
 |0,.inner ks,_,_,_,_,_,_,hn,_=>absurd hn (by simp[Ej])
 |h+1,.leaf es,_,_,_,_,_,_,hn,_=>absurd hn (by simp[Ej])
 |h+1,.inner ks,lo,k,v,h4,h0,hlo2,hn,ha=>by
  simp only[Ej]at hn;obtain⟨h2,h8,hk⟩:=hn;have hlo:=hlo2 (by omega);have hne:ks≠ []:=by intro e;rw[e]at h2;simp at h2;omega
  obtain⟨A,x,C,e,hA,hlow,hhi⟩:=Kl (k:=k) hne hk ha;have hx:Ej 4 h x:=hk x (by rw[e];simp);have hax:Bb (By x):=by
   have ha':Bb (As ks):=ha;rw[e,Bo]at ha';have:=(List.pairwise_append.1 ha').2.1;simp only[As]at this;exact(List.pairwise_append.1 this).1
  obtain⟨i1,i2,i3⟩:=Km h (k:=k) (v:=v) (Nat.le_refl 4) (.inl (by omega)) (fun _=>by omega) hx hax;have eg:ks.getD (At ks k) (.leaf [])=x:=by rw[<-hA,e];simp
  have et:ks.take (At ks k)=A:=by rw[<-hA,e];simp
  have ed:ks.drop (At ks k+1)=C:=by rw[<-hA,e];simp
  have hlen:ks.length=A.length+1+C.length:=by rw[e];simp;omega
  have hR:(Bu h x k v).2.toList.length<=1:=by cases (Bu h x k v).2<;>simp
  simp only[Bu];rw[eg,et,ed];obtain⟨s1,s2⟩:=Wx (l:=A++(Bu h x k v).1::((Bu h x k v).2.toList++C)) (h:=h) h4 (by simp;omega) (by simp;omega) (by simp;omega) (fun y hy=>by
   rcases List.mem_append.1 hy with hy|hy
   . exact hk y (by rw[e];simp[hy])
   rcases List.mem_cons.1 hy with rfl|hy
   . exact i2
   rcases List.mem_append.1 hy with hy|hy
   . exact(i3 y (by simpa using hy)).2
   . exact hk y (by rw[e];simp[hy]))
  refine⟨?_,s2⟩;rw[s1,Bo];simp only[As,By,Bo];have i1':By (Bu h x k v).1++As (Bu h x k v).2.toList=A7 k v (By x):=i1;rw[<-List.append_assoc (By (Bu h x k v).1),i1',e,Bo,Na hlow];simp only[As];rw[K4 hhi]
def G0:Option (Nat×Nd)->ByteArray->Val->Option (Nat×Nd)
 |none,k,v=>some (0,.leaf [(k,v)])
 |some (h,n),k,v=>match Bu h n k v with
  |(a,none)=>some (h,a)
  |(a,some b)=>some (h+1,Ey [a,b])
def Cb:Option (Nat×Nd)->List A0
 |none=> []
 |some (_,n)=>By n
def Gu (h:Nat):Nat:=if h=0 then 1 else 2
def T3:Option (Nat×Nd)->Prop
 |none=>True
 |some (h,n)=>Ej (Gu h) h n/\Bb (By n)
theorem Fe (h:Nat):Gu h<=2/\0<Gu h/\(0<h->2<=Gu h):=by
 unfold Gu;by_cases e:h=0
 . rw[if_pos e];omega
 . rw[if_neg e];omega
theorem Aae {t:Option (Nat×Nd)} (k:ByteArray) (v:Val) (ht:T3 t):Cb (G0 t k v)=A7 k v (Cb t)/\T3 (G0 t k v):=by
 match t,ht with
 |none,_=>exact⟨rfl,⟨by simp[Gu],by simp⟩,by simp[By,Bb]⟩
 |some (h,n),⟨hn,ha⟩=>
  obtain⟨l1,l2,l3⟩:=Fe h;obtain⟨i1,i2,i3⟩:=Km h (k:=k) (v:=v) (by omega) (.inl l2) l3 hn ha;have hp:=Ge (k:=k) (v:=v) ha
  match hr:Bu h n k v with
  |(a,none)=>
   have hP:G0 (some (h,n)) k v=some (h,a):=by simp only[G0,hr]
   rw[hP];rw[hr]at i1 i2;have e:By a=A7 k v (By n):=by simpa[X0,As]using i1
   exact⟨e,i2,by rw[e];exact hp⟩
  |(a,some b)=>
   have hP:G0 (some (h,n)) k v=some (h+1,.inner [a,b]):=by simp only[G0,hr];rfl
   rw[hP];rw[hr]at i1 i2 i3;have e:By (.inner [a,b])=A7 k v (By n):=by simpa[X0,As,By]using i1
   obtain⟨o1,o2⟩:=i3 b rfl;refine⟨e,⟨by unfold Gu;simp,by simp,fun x hx=> ?_⟩, ?_⟩
   . rcases List.mem_cons.1 hx with rfl|hx
     . exact o1
     . obtain rfl:=List.mem_singleton.1 hx;exact o2
   . show Bb (By (.inner [a,b]));rw[e];exact hp
end Go.Proofs.YtdbejcbbhomdbaaGreatDoor
namespace Go.Proofs.YtdbejcbbhomdbaaGreatDoor
open Go Go.RowKit Go.Lib
theorem Aap:(Tryz.prog.info? 84).map (fun i=>(i.zero,i.size,i.bytes))=some (some (.agg #[.string ⟨#[]⟩,.int .i64 0,.bool false,.int .i64 0,.string ⟨#[]⟩,.slice none 0 0,.slice none 0 0]),7,104):=by kernel_rfl
theorem Rt (b:Nat) (w:World) (V:Value) (n:Nat) (xs:List Value) (hV:w.ownsRow b 84 7 V n xs) (hb:b<=w.heap.size) (hn:n<=1000) (vb:Nat) (ys:List Value) (hl:ys.length=7) (hvs: ∀j v,ys[j]? =some v->w.cell? ⟨vb,j,none⟩=some v) (h1: ∀u ∈ ys,u.oneCell'=true):
 Calls Tryz.prog 128 #[V,.int .i64 n,.slice (some ⟨vb,0,none⟩) 1 1] w fun e w'=> ∃V',e=.returned V'/\w'.ownsRow b 84 7 V' (n+1) (xs++ys)/\w.grownBy w' V.ownBlock/\(V'.ownBlock=V.ownBlock\/V'.ownBlock=some w.heap.size):=by
 obtain⟨i0,hi0,hz0,hzs,hzb⟩:=info_parts Aap;obtain⟨V',w',hrun,k1,k2,_,k3⟩:=run_append_own_at (P:=Tryz.prog) (w:=w) b 41 41 84 i0 _ 7 104 Tryz.underlying41 hi0 hz0 hzs hzb rfl (by omega) V n xs hV ⟨vb,0,none⟩ 1 1 ys (by omega) (fun j u hj=>by rw[A5,Nat.zero_add];exact hvs j u hj) h1 (by simp only[maxLen];omega) (by omega) hb;have hV':=hV;rcases hV'.2 with⟨rfl,rfl⟩|⟨g,cap,cur,rfl,hbg,hg,hnc,hcm,_⟩
 . have hP: ∃V2,Ending.returned V'=.returned V2/\w'.ownsRow b 84 7 V2 (0+1) (xs++ys)/\w.grownBy w' (Value.slice none 0 0).ownBlock/\(V2.ownBlock=(Value.slice none 0 0).ownBlock\/V2.ownBlock=some w.heap.size):=⟨V',rfl,k1,k2,k3⟩;have HP:=qz hP;clear hV hV' k1 k2 k3 hP hvs h1;go_enter Tryz.func128,Tryz.ntmps128;go_wp2_with (at_builtin;refine Lib.wpList_append_run _ rfl _ _ _ _ rfl _ _ rfl rfl _ _ hrun ?_);go_ret;exact HP.out
 . have hP: ∃V2,Ending.returned V'=.returned V2/\w'.ownsRow b 84 7 V2 (n+1) (xs++ys)/\w.grownBy w' (Value.slice (some ⟨g,0,none⟩) n cap).ownBlock/\(V2.ownBlock=(Value.slice (some ⟨g,0,none⟩) n cap).ownBlock\/V2.ownBlock=some w.heap.size):=⟨V',rfl,k1,k2,k3⟩;have HP:=qz hP;have hc63:cap<=9223372036854775807:=by simp only[maxLen]at hcm;omega
   clear hV hV' k1 k2 k3 hP hvs h1 hg hcm;go_enter Tryz.func128,Tryz.ntmps128;go_wp2_with (at_builtin;refine Lib.wpList_append_run _ rfl _ _ _ _ rfl _ _ rfl rfl _ _ hrun ?_)
   all_goals(go_ret;exact HP.out)
theorem Vr (b:Nat) (w:World) (g n i:Nat) (cur:Array Value) (xs:List Value) (hb:b<=w.heap.size) (hg:w.heap[g]? =some (.cells cur 84 (0,0))) (hcs:cur.size=n*7) (hx:cur.toList.take (n*7)=xs) (hi:i<n) (hn:n<=1000) (h1x: ∀u ∈ xs,u.oneCell'=true)
 (vb:Nat) (ys:List Value) (hl:ys.length=7) (hvs: ∀j v,ys[j]? =some v->w.cell? ⟨vb,j,none⟩=some v) (h1: ∀u ∈ ys,u.oneCell'=true):
 Calls Tryz.prog 128 #[.slice (some ⟨g,0,none⟩) n n,.int .i64 i,.slice (some ⟨vb,0,none⟩) 1 1] w fun e w'=> ∃V',e=.returned V'/\w'.ownsRow b 84 7 V' (n+1) (xs.take (i*7)++ys++xs.drop (i*7))/\Below w.heap.size w w'/\V'.ownBlock=some w.heap.size:=by
 obtain⟨i0,hi0,hz0,hzs,hzb⟩:=info_parts Aap;have hxl:xs.length=n*7:=by rw[<-hx,List.length_take,Array.length_toList,hcs];omega
 have hcl:cur.toList=xs:=by rw[<-hx,List.take_of_length_le];rw[Array.length_toList,hcs];exact Nat.le_refl _
 have hgw:g<w.heap.size:=(Array.getElem?_eq_some_iff.1 hg).1;have hvw:vb<w.heap.size:=World.block_lt_of_cell? w _ (hvs 0 _ (List.getElem?_eq_getElem (by omega)));have hxc: ∀(W:World),W.heap[g]? =w.heap[g]? -> ∀j u,xs[j]? =some u->W.cell? ⟨g,j,none⟩=some u:=fun W hW j u hu=>by
  refine(cell_of_row _ _ _ _ _ _ (hW.trans hg)).trans ?_;rw[<-Array.getElem?_toList,hcl];exact hu
 have hsz:(Tryz.prog.info? 84).map (·.size)=some 7:=by rw[hi0];simp[hzs]
 have hz2: ¬((i:Int)=(n:Int)):=by omega
 have hz3:(n:Int)<(n:Int)+1:=by omega
 have hkk:(n:Int)+1 - (i:Int)=((n+1 - i:Nat):Int):=by omega
 have hik:i+(n+1 - i)=n+1:=by omega
 have hold:(Builtin.firstCells i0.size i (.slice (some ⟨g,0,none⟩) i n)).run Tryz.prog w.drew=.ok (xs.take (i*7)).toArray w.drew:=by
  rw[hzs];refine run_firstCells_some w.drew 7 i ⟨g,0,none⟩ i n (xs.take (i*7)) (by rw[List.length_take];omega) (fun j v hj=> ?_);rw[A5,Nat.zero_add];rw[List.getElem?_take]at hj
  split at hj
  . exact hxc w.drew rfl j v hj
  . cases hj
 have hrz: ∀ty,(Builtin.append_ #[41,3] ty #[.slice (some ⟨g,0,none⟩) i n,.int .i64 ((n:Int)+1 - (i:Int))]).run Tryz.prog w=.ok (.slice (some ⟨w.heap.size,0,none⟩) (n+1) (grownCap w (n+1) n 84)) (w.drew.alloc (.cells ((xs.take (i*7)).toArray++Builtin.zeroCells (Value.cells (.agg #[.string ⟨#[]⟩,.int .i64 0,.bool false,.int .i64 0,.string ⟨#[]⟩,.slice none 0 0,.slice none 0 0])) (n+1 - i)++Builtin.zeroCells (Value.cells (.agg #[.string ⟨#[]⟩,.int .i64 0,.bool false,.int .i64 0,.string ⟨#[]⟩,.slice none 0 0,.slice none 0 0])) (grownCap w (n+1) n 84 - (n+1))) 84)):=fun ty=>by
  have h:=Lib.run_append_grow_zeros (P:=Tryz.prog) w 41 3 ty 84 i0 _ .i64 .i64 Tryz.underlying41 Tryz.underlying3 hi0 hz0 (some ⟨g,0,none⟩) i n (xs.take (i*7)) hold (n+1 - i) (by omega) (by omega) (by omega) (by omega) (by rw[hzb];omega) (by rw[hzb,hik];exact growslice_fits (by omega) (by omega));rw[hik]at h;rw[hkk];exact h
 obtain⟨G,hG⟩: ∃G,G=grownCap w (n+1) n 84:=⟨_,rfl⟩;have hGn:n+1<=G:=by rw[hG];exact grownCap_ge w _ _ _
 have hG63:G<=maxLen:=by rw[hG];exact grownCap_le_maxLen w (n+1) n 84 (by unfold maxLen;omega)
 have hGm:G<=9223372036854775807:=by simp only[maxLen]at hG63;omega
 rw[<-hG]at hrz;obtain⟨MM,hMM⟩: ∃MM:List Value,(Builtin.zeroCells (Value.cells (.agg #[.string ⟨#[]⟩,.int .i64 0,.bool false,.int .i64 0,.string ⟨#[]⟩,.slice none 0 0,.slice none 0 0])) (n+1 - i)).toList=MM:=⟨_,rfl⟩;obtain⟨ZZ,hZZ⟩: ∃ZZ:List Value,(Builtin.zeroCells (Value.cells (.agg #[.string ⟨#[]⟩,.int .i64 0,.bool false,.int .i64 0,.string ⟨#[]⟩,.slice none 0 0,.slice none 0 0])) (G - (n+1))).toList=ZZ:=⟨_,rfl⟩;have hMl:MM.length=(n+1 - i)*7:=by rw[<-hMM];simp[Builtin.zeroCells,Value.cells];try omega
 have hZl:ZZ.length=(G - (n+1))*7:=by rw[<-hZZ];simp[Builtin.zeroCells,Value.cells];try omega
 have hROW:(xs.take (i*7)).toArray++Builtin.zeroCells (Value.cells (.agg #[.string ⟨#[]⟩,.int .i64 0,.bool false,.int .i64 0,.string ⟨#[]⟩,.slice none 0 0,.slice none 0 0])) (n+1 - i)++Builtin.zeroCells (Value.cells (.agg #[.string ⟨#[]⟩,.int .i64 0,.bool false,.int .i64 0,.string ⟨#[]⟩,.slice none 0 0,.slice none 0 0])) (G - (n+1))=(xs.take (i*7)++MM++ZZ).toArray:=by
  apply Array.ext';simp[<-hMM,<-hZZ]
 rw[hROW]at hrz;obtain⟨R0,hR0⟩: ∃R:List Value,xs.take (i*7)++MM++ZZ=R:=⟨_,rfl⟩;rw[hR0]at hrz;have hRl:R0.length=G*7:=by
  rw[<-hR0,List.length_append,List.length_append,List.length_take,hMl,hZl,hxl];omega
 obtain⟨R1,hR1⟩: ∃R:List Value,R0.take (i*7)++ys++R0.drop (i*7+ys.length)=R:=⟨_,rfl⟩;obtain⟨R2,hR2⟩: ∃R:List Value,R1.take ((i+1)*7)++xs.drop (i*7)++R1.drop ((i+1)*7+(xs.drop (i*7)).length)=R:=⟨_,rfl⟩;have hR1l:R1.length=G*7:=by
  rw[<-hR1,List.length_append,List.length_append,List.length_take,List.length_drop,hRl,hl];omega
 have hRes:R2=xs.take (i*7)++ys++xs.drop (i*7)++ZZ:=by
  rw[<-hR2,<-hR1,<-hR0];exact Nf _ _ _ ys (xs.drop (i*7)) (i*7) ((i+1)*7) (by rw[List.length_take,hxl];omega) (by rw[hMl,hl,List.length_drop,hxl];omega) (by rw[hl];omega)
 have hR2l:R2.length=G*7:=by
  rw[<-hR2,List.length_append,List.length_append,List.length_take,List.length_drop,List.length_drop,hR1l,hxl];omega
 have hcA: ∀(W:World),W.heap[w.heap.size]? =some (.cells R0.toArray 84 (0,0))->(∀j,j<w.heap.size->W.heap[j]? =w.heap[j]?)-> ∀ty o dl dc,o=i*7->dl=n+1 - i->(Builtin.copy_ #[41,41] ty #[.slice (some ⟨w.heap.size,o,none⟩) dl dc,.slice (some ⟨vb,0,none⟩) 1 1]).run Tryz.prog W=.ok (goInt 1) (W.setRow w.heap.size R1.toArray):=fun W hW hk ty o dl dc ho hd=>by
  subst ho hd;have hmin:Nat.min 1 (n+1 - i)=1:=by show min 1 (n+1 - i)=1;omega
  have:=C5 (P:=Tryz.prog) W 41 41 ty 84 7 w.heap.size (i*7) (n+1 - i) dc ⟨vb,0,none⟩ 1 1 R0.toArray 84 ys Tryz.underlying41 hsz hW (by rw[hl,hmin]) (fun j v hj=>by rw[A5,Nat.zero_add];exact(World.cell?_of_block (hk vb hvw)).trans (hvs j v hj)) (by rw[hl];simp only[List.size_toArray,hRl];omega) h1;rw[hmin]at this;refine this.trans ?_;rw[<-hR1];rfl
 have hcB: ∀(W:World),W.heap[w.heap.size]? =some (.cells R1.toArray 84 (0,0))->(∀j,j<w.heap.size->W.heap[j]? =w.heap[j]?)-> ∀ty o so dl dc sl sc,o=(i+1)*7->so=i*7->dl=n - i->sl=n - i->(Builtin.copy_ #[41,41] ty #[.slice (some ⟨w.heap.size,o,none⟩) dl dc,.slice (some ⟨g,so,none⟩) sl sc]).run Tryz.prog W=.ok (goInt (n - i:Nat)) (W.setRow w.heap.size R2.toArray):=fun W hW hk ty o so dl dc sl sc ho hso hd hs=>by
  subst ho hso hd hs;have hmin:Nat.min (n - i) (n - i)=n - i:=Nat.min_self _;have:=C5 (P:=Tryz.prog) W 41 41 ty 84 7 w.heap.size ((i+1)*7) (n - i) dc ⟨g,i*7,none⟩ (n - i) sc R1.toArray 84 (xs.drop (i*7)) Tryz.underlying41 hsz hW (by rw[List.length_drop,hxl,hmin];omega) (fun j v hj=>by rw[A5];exact hxc W (hk g hgw) _ v (by rwa [List.getElem?_drop]at hj)) (by rw[List.length_drop,hxl];simp only[List.size_toArray,hR1l];omega) (fun v hv=>h1x v (List.mem_of_mem_drop hv));rw[hmin]at this;refine this.trans ?_;rw[<-hR2]
 have hP: ∀W:World,Below w.heap.size w W->W.heap[w.heap.size]? =some (.cells R2.toArray 84 (0,0))-> ∃V',Ending.returned (.slice (some ⟨w.heap.size,0,none⟩) (n+1) G)=.returned V'/\W.ownsRow b 84 7 V' (n+1) (xs.take (i*7)++ys++xs.drop (i*7))/\Below w.heap.size w W/\V'.ownBlock=some w.heap.size:=fun W hB hW=>
  ⟨_,rfl,Jp hb hW hGn hG63 (by simpa using hR2l) (by
    show List.take _ R2=_;rw[hRes,List.take_left'];rw[List.length_append,List.length_append,List.length_take,List.length_drop,hxl,hl];omega),hB,rfl⟩
 have hGi: ¬(G=i):=by omega
 have hGim: ¬(G=i+1):=by omega
 have hci: ¬(n=i):=by omega
 have hw1:IntKind.i64.wrap ((i:Int)+1)=(i:Int)+1:=by rw[IntKind.wrap_i64];omega
 have hb1:(0:Int)<=(i:Int)+1:=by omega
 have hin:i<=n:=by omega
 have htn:((i:Int)+1).toNat=i+1:=by omega
 have hb3:(i:Int)<=(n:Int):=by omega
 obtain⟨W0,hW0⟩: ∃W:World,(w.alloc (.cells R0.toArray 84)).drew=W:=⟨_,rfl⟩;have hB0:Below w.heap.size w W0:=hW0▸Below.drew ((Below.refl _ _).alloc (Nat.le_refl _) _);have hR0h:W0.heap[w.heap.size]? =some (.cells R0.toArray 84 (0,0)):=hW0▸heap_alloc_new w _;have hcA1:=fun ty dc=>hcA W0 hR0h (fun j hj=>hB0.block j hj) ty _ _ dc rfl rfl;obtain⟨W1,hW1⟩: ∃W:World,W0.setRow w.heap.size R1.toArray=W:=⟨_,rfl⟩;rw[hW1]at hcA1;have hB1:Below w.heap.size w W1.drew:=hW1▸Below.drew (Ij hB0 (Nat.le_refl _) _);have hR1h:W1.drew.heap[w.heap.size]? =some (.cells R1.toArray 84 (0,0)):=hW1▸setRow_heap W0 _ _ _ _ _ hR0h;have hcB1:=fun ty dc sc=>hcB W1.drew hR1h (fun j hj=>hB1.block j hj) ty _ _ _ dc _ sc rfl rfl rfl rfl;have HPf:=qz (hP (W1.drew.setRow w.heap.size R2.toArray) (Ij hB1 (Nat.le_refl _) _) (setRow_heap W1.drew _ _ _ _ _ hR1h));skip;clear hcA hcB hP hold hRes hR2 hR1 hR0 hROW hMM hZZ hMl hZl hxc hcl hx hg hvs h1 h1x hi0 hz0 hzs hzb hRl hR1l hR2l hG hsz hkk hik hxl hcs hG63 hB0 hR0h hB1 hR1h hW1;go_enter Tryz.func128,Tryz.ntmps128;go_wp2_with (at_builtin;refine Lib.wpList_append_run _ rfl _ _ _ _ rfl _ _ rfl rfl _ _ (hrz _) ?_);refine wp_region_held_drew (S:=fun _=>True) (by kernel_rfl) trivial (fun hHeld=> ?_);refine tkH 0 hHeld ?_;refine tkH 1 hHeld ?_;refine tkH 2 hHeld ?_;refine tkH 3 hHeld ?_;refine tkH 4 hHeld ?_;refine tkH 5 hHeld ?_;refine tkH 6 hHeld ?_;refine tkH 7 hHeld ?_;refine Iu 8 fun K hK=> ?_;go_simp;refine hK.out _ _ trivial (fun hHeld=> ?_);clear hK K;refine wpAnyH_done (by kernel_rfl) ?_ _;clear hHeld;go_wp2;go_ret;exact HPf.out
end Go.Proofs.YtdbejcbbhomdbaaGreatDoor
