/- Parts: commonplaceref01.Code: an escape's rune. No condition. -/
import Derived.Test.YtdbejcbbhomdbaaGreatDoorKPt3
import Derived.Test.YtdbejcbbhomdbaaGreatDoorKPt4
set_option maxHeartbeats 20000000
namespace Go.Proofs.YtdbejcbbhomdbaaGreatDoor
abbrev Bz:=ByteArray×Val
inductive Nd where
 |leaf (es:List Bz)
 |inner (ks:List Nd)
theorem Nd.ind {p:Nd->Prop} (h0: ∀es,p (.leaf es)) (h1: ∀ks,(∀k ∈ ks,p k)->p (.inner ks)): ∀n,p n:=by
 intro n;refine Nd.rec (motive_1:=p) (motive_2:=fun l=> ∀d ∈ l,p d) h0 h1 ?_ ?_ n
 . intro d hd
   cases hd
 . intro d r hd hr x hx;rcases List.mem_cons.1 hx with rfl|hx
   . exact hd
   . exact hr x hx
mutual
def Co:Nd->List Bz
 | .leaf es=>es
 | .inner ks=>Au ks
def Au:List Nd->List Bz
 | []=> []
 |k::r=>Co k++Au r
end
theorem B6: ∀(a b:List Nd),Au (a++b)=Au a++Au b
 | [],b=>rfl
 |x::r,b=>by simp only[List.cons_append,Au,B6 r b,List.append_assoc]
theorem Su (x:Nd):Au [x]=Co x:=by simp[Au]
theorem Adt {x:Nd} {l:List Nd} (h:x ∈ l): ∀e ∈ Co x,e ∈ Au l:=by
 induction l with
 |nil=>cases h
 |cons y r ih=>
  intro e he;simp only[Au];rcases List.mem_cons.1 h with rfl|h
  . exact List.mem_append_left _ he
  . exact List.mem_append_right _ (ih h e he)
def Cq (k:ByteArray) (v:Val):List Bz->List Bz
 | []=> [(k,v)]
 |(a,x)::r=>if Cg a k then(a,x)::Cq k v r else if a=k then(k,v)::r else(k,v)::(a,x)::r
theorem P7 {k:ByteArray} {v:Val} {B:List Bz}: ∀{A:List Bz},(∀a ∈ A,Cg a.1 k=true)->Cq k v (A++B)=A++Cq k v B
 | [],_=>rfl
 |(a,x)::r,h=>by
  have h1:Cg a k=true:=h (a,x) (by simp);simp only[List.cons_append,Cq];rw[if_pos h1,P7 fun y hy=>h y (List.mem_cons_of_mem _ hy)]
theorem Aae {k:ByteArray} {v:Val}: ∀{C:List Bz},(∀c ∈ C,Cg k c.1=true)->Cq k v C=(k,v)::C
 | [],_=>rfl
 |(a,x)::r,h=>by
  have h1:Cg k a=true:=h (a,x) (by simp);simp only[Cq];rw[if_neg (by rw[L4 h1];simp),if_neg];rintro rfl;rw[Cr]at h1
  cases h1
theorem M6 {k:ByteArray} {v:Val} {C:List Bz} (h: ∀c ∈ C,Cg k c.1=true): ∀{B:List Bz},Cq k v (B++C)=Cq k v B++C
 | []=>by rw[List.nil_append,Aae h];rfl
 |(a,x)::r=>by
  simp only[List.cons_append,Cq];by_cases h1:Cg a k=true
  . rw[if_pos h1,if_pos h1,M6 h];rfl
  . rw[if_neg h1,if_neg h1];by_cases h2:a=k
    . rw[if_pos h2,if_pos h2];rfl
    . rw[if_neg h2,if_neg h2];rfl
theorem Ia {k:ByteArray} {v:Val}: ∀(l:List Bz),(Cq k v l).length<=l.length+1/\0<(Cq k v l).length
 | []=>by simp[Cq]
 |(a,x)::r=>by
  simp only[Cq];have ih:=Ia (k:=k) (v:=v) r;by_cases h1:Cg a k=true
  . rw[if_pos h1];simp;omega
  . rw[if_neg h1];by_cases h2:a=k
    . rw[if_pos h2];simp
    . rw[if_neg h2];simp
theorem Vo {k:ByteArray} {v:Val}: ∀{l:List Bz} {e:Bz},e ∈ Cq k v l->e=(k,v)\/e ∈ l
 | [],e,h=>by simp[Cq]at h;exact .inl h
 |(a,x)::r,e,h=>by
  simp only[Cq]at h;by_cases h1:Cg a k=true
  . rw[if_pos h1]at h;rcases List.mem_cons.1 h with rfl|h
    . exact .inr (by simp)
    . rcases Vo h with h|h
      . exact .inl h
      . exact .inr (List.mem_cons_of_mem _ h)
  . rw[if_neg h1]at h;by_cases h2:a=k
    . rw[if_pos h2]at h;rcases List.mem_cons.1 h with h|h
      . exact .inl h
      . exact .inr (List.mem_cons_of_mem _ h)
    . rw[if_neg h2]at h;rcases List.mem_cons.1 h with h|h
      . exact .inl h
      . exact .inr h
theorem Jt {k:ByteArray} {v:Val}: ∀{l:List Bz},Bq l->Bq (Cq k v l)
 | [],_=>by simp[Cq,Bq]
 |(a,x)::r,h=>by
  obtain⟨h1,h2⟩:=List.pairwise_cons.1 h;simp only[Cq];by_cases hak:Cg a k=true
  . rw[if_pos hak];refine List.pairwise_cons.2 ⟨fun e he=> ?_,Jt h2⟩;rcases Vo he with rfl|he
    . exact hak
    . exact h1 e he
  . rw[if_neg hak];by_cases e:a=k
    . subst e;rw[if_pos rfl];exact List.pairwise_cons.2 ⟨h1,h2⟩
    . rw[if_neg e];have hka:Cg k a=true:=by
       rcases Ix a k with h|h|h
       . exact absurd h hak
       . exact absurd h e
       . exact h
      refine List.pairwise_cons.2 ⟨fun y hy=> ?_,h⟩;rcases List.mem_cons.1 hy with rfl|hy
      . exact hka
      . exact Cc hka (h1 y hy)
def Fj:Nat->Nat->Nd->Prop
 |lo,0,.leaf es=>lo<=es.length/\es.length<=8
 |lo,h+1,.inner ks=>lo<=ks.length/\ks.length<=8/\ ∀k ∈ ks,Fj 4 h k
 |_,_,_=>False
theorem Y6 {a b:Nat} (hab:a<=b): ∀{h:Nat} {n:Nd},Fj b h n->Fj a h n
 |0,.leaf es,h=>⟨by have:=h.1;omega,h.2⟩
 |0,.inner ks,h=>absurd h (by simp[Fj])
 |_+1,.leaf es,hn=>absurd hn (by simp[Fj])
 |_+1,.inner ks,hn=>by
  simp only[Fj]at hn ⊢;exact⟨by omega,hn.2⟩
theorem Lg: ∀{h:Nat} {n:Nd} {lo:Nat},0<lo->Fj lo h n->Co n≠ []
 |0,.leaf es,_,h0,h=>by
  intro e;have h1:=h.1;have:es= []:=e;rw[this]at h1;simp at h1;omega
 |0,.inner ks,_,_,h=>absurd h (by simp[Fj])
 |h+1,.leaf es,_,_,hn=>absurd hn (by simp[Fj])
 |h+1,.inner ks,_,h0,hn=>by
  simp only[Fj]at hn;obtain⟨h1,_,h3⟩:=hn
  match ks,h1 with
  | [],h1=>simp at h1;omega
  |x::r,_=>
   have:=Lg (by omega) (h3 x (by simp));simp only[Co,Au];intro e;exact this (List.append_eq_nil_iff.1 e).1
def Al (n:Nd):ByteArray:=((Co n).head?.map (·.1)).getD ByteArray.empty
theorem Er {n:Nd} (h:Co n≠ []): ∃x r,Co n=(Al n,x)::r:=by
 unfold Al
 match hn:Co n,h with
 |(a,x)::r,_=>exact⟨x,r,rfl⟩
def At (ks:List Nd) (k:ByteArray):Nat:=ks.findIdx (fun n=>Cg k (Al n)) - 1
def F5:List Nd->Nd
 | [x]=>x
 |ks=> .inner ks
theorem Iw {ks:List Nd} (h:2<=ks.length):F5 ks=.inner ks:=by
 match ks,h with
 |x::y::r,_=>rfl
def E7 (l:List Bz):Nd×Option Nd:=if l.length<=8 then(.leaf l,none)else(.leaf (l.take 4),some (.leaf (l.drop 4)))
def E8 (l:List Nd):Nd×Option Nd:=if l.length<=8 then(F5 l,none)else(F5 (l.take 4),some (F5 (l.drop 4)))
def B9:Nat->Nd->ByteArray->Val->Nd×Option Nd
 |0,n,k,v=>E7 (Cq k v (Co n))
 |_+1,.leaf es,k,v=>E7 (Cq k v es)
 |h+1,.inner ks,k,v=>E8 (ks.take (At ks k)++(B9 h (ks.getD (At ks k) (.leaf [])) k v).1::((B9 h (ks.getD (At ks k) (.leaf [])) k v).2.toList++ks.drop (At ks k+1)))
def flR (r:Nd×Option Nd):List Bz:=Co r.1++Au r.2.toList
theorem Ml {ks:List Nd} {k:ByteArray} {h:Nat} (h2:ks≠ []) (hk: ∀x ∈ ks,Fj 4 h x) (ha:Bq (Au ks)):
 ∃A x C,ks=A++x::C/\A.length=At ks k/\(∀a ∈ Au A,Cg a.1 k=true)/\(∀c ∈ Au C,Cg k c.1=true):=by
 have hlt:At ks k<ks.length:=by
  have:=List.findIdx_le_length (xs:=ks) (p:=fun n=>Cg k (Al n));have:0<ks.length:=List.length_pos_iff.2 h2;unfold At;omega
 refine⟨ks.take (At ks k),ks[At ks k],ks.drop (At ks k+1), ?_,by rw[List.length_take];omega, ?_, ?_⟩
 . rw[List.getElem_cons_drop,List.take_append_drop]
 . intro a haa;have hj:At ks k≠0:=by
    intro e;rw[e]at haa;simp[Au]at haa
   have hx:Cg k (Al ks[At ks k])=false:=by
    have:=List.not_of_lt_findIdx (xs:=ks) (p:=fun n=>Cg k (Al n)) (i:=At ks k) (by unfold At at hj ⊢;omega);simpa using this
   obtain⟨v,r,hf⟩:=Er (Lg (by omega) (hk ks[At ks k] (List.getElem_mem hlt)));have e:ks=ks.take (At ks k)++ks[At ks k]::ks.drop (At ks k+1):=by rw[List.getElem_cons_drop,List.take_append_drop]
   have ha':=ha;rw[e,B6]at ha';have h3:=(List.pairwise_append.1 ha').2.2 a haa (Al ks[At ks k],v) (by simp only[Au];rw[hf];simp);rcases Ix (Al ks[At ks k]) k with h|h|h
   . exact Cc h3 h
   . rw[<-h];exact h3
   . rw[hx]at h;cases h
 . intro c hc;have e:ks=ks.take (At ks k)++ks[At ks k]::ks.drop (At ks k+1):=by rw[List.getElem_cons_drop,List.take_append_drop]
   have ha':=ha;rw[e,B6]at ha';have ha2:=(List.pairwise_append.1 ha').2.1;simp only[Au]at ha2;by_cases hj:ks.findIdx (fun n=>Cg k (Al n))=0
   . have hw:At ks k=0:=by unfold At;omega
     have hp:Cg k (Al ks[At ks k])=true:=by
      have:=List.findIdx_getElem (xs:=ks) (p:=fun n=>Cg k (Al n)) (w:=by rw[hj];exact List.length_pos_iff.2 h2);simp only[hj]at this;simpa[hw]using this
     obtain⟨v,r,hf⟩:=Er (Lg (by omega) (hk ks[At ks k] (List.getElem_mem hlt)));have h3:=(List.pairwise_append.1 ha2).2.2 (Al ks[At ks k],v) (by rw[hf];simp) c hc;exact Cc hp h3
   . have hw:At ks k+1=ks.findIdx (fun n=>Cg k (Al n)):=by unfold At;omega
     rw[hw]at hc ha2;by_cases hl:ks.findIdx (fun n=>Cg k (Al n))<ks.length
     . have hp:Cg k (Al ks[ks.findIdx (fun n=>Cg k (Al n))])=true:=List.findIdx_getElem (xs:=ks) (p:=fun n=>Cg k (Al n)) (w:=hl);have ha3:=(List.pairwise_append.1 ha2).2.1;rw[List.drop_eq_getElem_cons hl]at hc ha3;simp only[Au]at hc ha3;obtain⟨v,r,hf⟩:=Er (Lg (by omega) (hk _ (List.getElem_mem hl)));rw[hf]at hc ha3;rw[List.cons_append]at hc ha3;rcases List.mem_cons.1 hc with rfl|hc
       . exact hp
       . exact Cc hp ((List.pairwise_cons.1 ha3).1 c hc)
     . rw[List.drop_eq_nil_of_le (by omega)]at hc;simp[Au]at hc
def okR (lo h:Nat) (r:Nd×Option Nd):Prop:=Fj lo h r.1/\ ∀m,r.2=some m->Fj 4 h r.1/\Fj 4 h m
theorem Aas {l:List Bz} {lo:Nat} (h4:lo<=4) (h0:lo<=l.length) (h9:l.length<=9):flR (E7 l)=l/\okR lo 0 (E7 l):=by
 unfold E7;by_cases h:l.length<=8
 . rw[if_pos h];exact⟨by simp[flR,Co,Au],⟨h0,h⟩,fun m e=>by cases e⟩
 . rw[if_neg h];have ha:Fj 4 0 (.leaf (l.take 4)):=⟨by rw[List.length_take];omega,by rw[List.length_take];omega⟩;refine⟨by simp[flR,Co,Au],Y6 h4 ha,fun m e=>⟨ha, ?_⟩⟩
   cases e
   exact⟨by rw[List.length_drop];omega,by rw[List.length_drop];omega⟩
theorem Aat {l:List Nd} {h lo:Nat} (h4:lo<=4) (h0:lo<=l.length) (h2:2<=l.length) (h9:l.length<=9) (hk: ∀x ∈ l,Fj 4 h x):flR (E8 l)=Au l/\okR lo (h+1) (E8 l):=by
 unfold E8;by_cases h8:l.length<=8
 . rw[if_pos h8,Iw h2];exact⟨by simp[flR,Co,Au],⟨h0,h8,hk⟩,fun m e=>by cases e⟩
 . rw[if_neg h8,Iw (by rw[List.length_take];omega),Iw (by rw[List.length_drop];omega)];have ha:Fj 4 (h+1) (.inner (l.take 4)):=⟨by rw[List.length_take];omega,by rw[List.length_take];omega,fun x hx=>hk x (List.mem_of_mem_take hx)⟩;refine⟨?_,Y6 h4 ha,fun m e=>⟨ha, ?_⟩⟩
   . simp only[flR,Option.toList,Su,Co];rw[<-B6,List.take_append_drop]
   . cases e
     exact⟨by rw[List.length_drop];omega,by rw[List.length_drop];omega,fun x hx=>hk x (List.mem_of_mem_drop hx)⟩
theorem Y9 {k:ByteArray} {v:Val}: ∀(l:List Bz),l.length<=(Cq k v l).length
 | []=>by simp
 |(a,x)::r=>by
  have ih:=Y9 (k:=k) (v:=v) r;simp only[Cq];by_cases h1:Cg a k=true
  . rw[if_pos h1];simp;omega
  . rw[if_neg h1];by_cases h2:a=k
    . rw[if_pos h2];simp
    . rw[if_neg h2];simp
theorem Mm: ∀(h:Nat) {n:Nd} {lo:Nat} {k:ByteArray} {v:Val},lo<=4->0<lo\/h=0->(0<h->2<=lo)->Fj lo h n->Bq (Co n)->flR (B9 h n k v)=Cq k v (Co n)/\okR lo h (B9 h n k v)
 |0,.leaf es,lo,k,v,h4,_,_,hn,_=>by
  have hl:=Ia (k:=k) (v:=v) es;have hg:=Y9 (k:=k) (v:=v) es;have h1:=hn.1;have h2:=hn.2;simp only[B9,Co];exact Aas h4 (by omega) (by omega)
 |0,.inner ks,_,_,_,_,_,_,hn,_=>absurd hn (by simp[Fj])
 |h+1,.leaf es,_,_,_,_,_,_,hn,_=>absurd hn (by simp[Fj])
 |h+1,.inner ks,lo,k,v,h4,h0,hlo2,hn,ha=>by
  simp only[Fj]at hn;obtain⟨h2,h8,hk⟩:=hn;have hlo:=hlo2 (by omega);have hne:ks≠ []:=by intro e;rw[e]at h2;simp at h2;omega
  obtain⟨A,x,C,e,hA,hlow,hhi⟩:=Ml (k:=k) hne hk ha;have hx:Fj 4 h x:=hk x (by rw[e];simp);have hax:Bq (Co x):=by
   have ha':Bq (Au ks):=ha;rw[e,B6]at ha';have:=(List.pairwise_append.1 ha').2.1;simp only[Au]at this;exact(List.pairwise_append.1 this).1
  obtain⟨i1,i2,i3⟩:=Mm h (k:=k) (v:=v) (Nat.le_refl 4) (.inl (by omega)) (fun _=>by omega) hx hax;have eg:ks.getD (At ks k) (.leaf [])=x:=by rw[<-hA,e];simp
  have et:ks.take (At ks k)=A:=by rw[<-hA,e];simp
  have ed:ks.drop (At ks k+1)=C:=by rw[<-hA,e];simp
  have hlen:ks.length=A.length+1+C.length:=by rw[e];simp;omega
  have hR:(B9 h x k v).2.toList.length<=1:=by cases (B9 h x k v).2<;>simp
  simp only[B9];rw[eg,et,ed];obtain⟨s1,s2⟩:=Aat (l:=A++(B9 h x k v).1::((B9 h x k v).2.toList++C)) (h:=h) h4 (by simp;omega) (by simp;omega) (by simp;omega) (fun y hy=>by
   rcases List.mem_append.1 hy with hy|hy
   . exact hk y (by rw[e];simp[hy])
   rcases List.mem_cons.1 hy with rfl|hy
   . exact i2
   rcases List.mem_append.1 hy with hy|hy
   . exact(i3 y (by simpa using hy)).2
   . exact hk y (by rw[e];simp[hy]))
  refine⟨?_,s2⟩;rw[s1,B6];simp only[Au,Co,B6];have i1':Co (B9 h x k v).1++Au (B9 h x k v).2.toList=Cq k v (Co x):=i1;rw[<-List.append_assoc (Co (B9 h x k v).1),i1',e,B6,P7 hlow];simp only[Au];rw[M6 hhi]
def Jd:Option (Nat×Nd)->ByteArray->Val->Option (Nat×Nd)
 |none,k,v=>some (0,.leaf [(k,v)])
 |some (h,n),k,v=>match B9 h n k v with
  |(a,none)=>some (h,a)
  |(a,some b)=>some (h+1,F5 [a,b])
def Eu:Option (Nat×Nd)->List Bz
 |none=> []
 |some (_,n)=>Co n
def I6 (h:Nat):Nat:=if h=0 then 1 else 2
def okT:Option (Nat×Nd)->Prop
 |none=>True
 |some (h,n)=>Fj (I6 h) h n/\Bq (Co n)
theorem Ib (h:Nat):I6 h<=2/\0<I6 h/\(0<h->2<=I6 h):=by
 unfold I6;by_cases e:h=0
 . rw[if_pos e];omega
 . rw[if_neg e];omega
theorem Aeb {t:Option (Nat×Nd)} (k:ByteArray) (v:Val) (ht:okT t):Eu (Jd t k v)=Cq k v (Eu t)/\okT (Jd t k v):=by
 match t,ht with
 |none,_=>exact⟨rfl,⟨by simp[I6],by simp⟩,by simp[Co,Bq]⟩
 |some (h,n),⟨hn,ha⟩=>
  obtain⟨l1,l2,l3⟩:=Ib h;obtain⟨i1,i2,i3⟩:=Mm h (k:=k) (v:=v) (by omega) (.inl l2) l3 hn ha;have hp:=Jt (k:=k) (v:=v) ha
  match hr:B9 h n k v with
  |(a,none)=>
   have hP:Jd (some (h,n)) k v=some (h,a):=by simp only[Jd,hr]
   rw[hP];rw[hr]at i1 i2;have e:Co a=Cq k v (Co n):=by simpa[flR,Au]using i1
   exact⟨e,i2,by rw[e];exact hp⟩
  |(a,some b)=>
   have hP:Jd (some (h,n)) k v=some (h+1,.inner [a,b]):=by simp only[Jd,hr];rfl
   rw[hP];rw[hr]at i1 i2 i3;have e:Co (.inner [a,b])=Cq k v (Co n):=by simpa[flR,Au,Co]using i1
   obtain⟨o1,o2⟩:=i3 b rfl;refine⟨e,⟨by unfold I6;simp,by simp,fun x hx=> ?_⟩, ?_⟩
   . rcases List.mem_cons.1 hx with rfl|hx
     . exact o1
     . obtain rfl:=List.mem_singleton.1 hx;exact o2
   . show Bq (Co (.inner [a,b]));rw[e];exact hp
def E6:Nd->Nat
 | .leaf es=>es.length
 | .inner ks=>ks.length
theorem V3 {lo h:Nat} {n:Nd} (hn:Fj lo h n):lo<=E6 n/\E6 n<=8:=by
 match h,n,hn with
 |0,.leaf es,hn=>exact hn
 |_+1,.inner ks,hn=>simp only[Fj]at hn;exact⟨hn.1,hn.2.1⟩
mutual
def Kl:Nd->Nat
 | .leaf _=>0
 | .inner ks=>htL ks+1
def htL:List Nd->Nat
 | []=>0
 |k::_=>Kl k
end
theorem Sx: ∀{h:Nat} {n:Nd} {lo:Nat},0<lo\/h=0->Fj lo h n->Kl n=h
 |0,.leaf es,_,_,_=>by simp[Kl]
 |0,.inner ks,_,_,hn=>absurd hn (by simp[Fj])
 |h+1,.leaf es,_,_,hn=>absurd hn (by simp[Fj])
 |h+1,.inner ks,lo,h0,hn=>by
  simp only[Fj]at hn
  match ks,hn with
  | [],hn=>have:=hn.1;simp at this;omega
  |k::r,hn=>simp only[Kl,htL,Sx (.inl (by omega)) (hn.2.2 k (by simp))]
end Go.Proofs.YtdbejcbbhomdbaaGreatDoor
namespace Go.Proofs.YtdbejcbbhomdbaaGreatDoor
open Go Go.RowKit
abbrev Qg:TypeId:=168
def Ul (b:Nat):D:=.leaf (.pointer (some ⟨b,0,none⟩))
def Ay (l:List Nat):List D:=l.map Ul
theorem Pb (l:List Nat): ∀d ∈ Ay l,d.cells=1:=by
 intro d hd;obtain⟨b,_,rfl⟩:=List.mem_map.1 hd;rfl
theorem A9 (l:List Nat):(Ay l).length=l.length:=List.length_map ..
def Bv (n:Nd):ByteArray:=((Co n).getLast?.map (·.1)).getD ByteArray.empty
mutual
def Bt (w:World) (B:Nat):Nd->Nat->Prop
 | .leaf es,b=>b<B/\ ∃a c,Ae w B (.row 7 (dO es)) [.slice a es.length c]/\
    Aj w b Qg #[.slice a es.length c,.slice none 0 0,.int .i64 0,.int .i64 es.length,.string (Al (.leaf es)),.string (Bv (.leaf es)),.bool false]
 | .inner ks,b=>b<B/\ ∃bs a c,Ae w B (.row 1 (Ay bs)) [.slice a ks.length c]/\
    Aj w b Qg #[.slice none 0 0,.slice a ks.length c,.int .i64 (Kl (.inner ks)),.int .i64 (Au ks).length,.string (Al (.inner ks)),.string (Bv (.inner ks)),.bool false]/\Ar w B ks bs
def Ar (w:World) (B:Nat):List Nd->List Nat->Prop
 | [],bs=>bs= []
 |k::r,bs=> ∃b t,bs=b::t/\Bt w B k b/\Ar w B r t
end
theorem Ar.imp {w w':World} {B B':Nat}: ∀{ks:List Nd},(∀k ∈ ks,∀b,Bt w B k b->Bt w' B' k b)-> ∀{bs},Ar w B ks bs->Ar w' B' ks bs
 | [],_,_,h=>h
 |k::r,ih,bs,h=>by
  simp only[Ar]at h ⊢;obtain⟨b,t,e,h1,h2⟩:=h;exact⟨b,t,e,ih k (by simp) b h1,Ar.imp (fun x hx=>ih x (by simp[hx])) h2⟩
theorem Bt.imp {w w':World} {B B':Nat} (hB:B<=B') (hk: ∀i,i<B->w'.heap[i]? =w.heap[i]?): ∀{n:Nd} {b:Nat},Bt w B n b->Bt w' B' n b:=by
 intro n;refine Nd.ind (p:=fun n=> ∀{b:Nat},Bt w B n b->Bt w' B' n b) ?_ ?_ n
 . intro es b h;simp only[Bt]at h ⊢;obtain⟨h0,a,c,h1,h2⟩:=h;exact⟨by omega,a,c,h1.imp hB fun p hp=>World.cell?_of_block (hk p.block hp),(hk b h0).trans h2⟩
 . intro ks ih b h;simp only[Bt]at h ⊢;obtain⟨h0,bs,a,c,h1,h2,h3⟩:=h;exact⟨by omega,bs,a,c,h1.imp hB fun p hp=>World.cell?_of_block (hk p.block hp),(hk b h0).trans h2,Ar.imp (fun k hk' _ hb=>ih k hk' hb) h3⟩
theorem Bt.below {w w':World} {B:Nat} {n:Nd} {b:Nat} (h:Bt w B n b) (hb:Below B w w'):Bt w' B n b:=h.imp (Nat.le_refl _) fun i hi=>hb.block i hi
theorem Bt.more {w:World} {B B':Nat} {n:Nd} {b:Nat} (h:Bt w B n b) (hB:B<=B'):Bt w B' n b:=h.imp hB fun _ _=>rfl
theorem Bt.later {w w':World} {n:Nd} {b:Nat} (h:Bt w w.heap.size n b) (hb:Below w.heap.size w w'):Bt w' w'.heap.size n b:=(h.below hb).more hb.size
theorem Ar.below {w w':World} {B:Nat} {ks:List Nd} {bs:List Nat} (h:Ar w B ks bs) (hb:Below B w w'):Ar w' B ks bs:=Ar.imp (fun _ _ _ h=>h.below hb) h
theorem Ar.more {w:World} {B B':Nat} {ks:List Nd} {bs:List Nat} (h:Ar w B ks bs) (hB:B<=B'):Ar w B' ks bs:=Ar.imp (fun _ _ _ h=>h.more hB) h
theorem Ar.later {w w':World} {ks:List Nd} {bs:List Nat} (h:Ar w w.heap.size ks bs) (hb:Below w.heap.size w w'):Ar w' w'.heap.size ks bs:=(h.below hb).more hb.size
theorem Bt.lt {w:World} {B:Nat} {n:Nd} {b:Nat} (h:Bt w B n b):b<B:=by
 cases n<;>(simp only[Bt]at h;exact h.1)
theorem Ar.len {w:World} {B:Nat}: ∀{ks:List Nd} {bs:List Nat},Ar w B ks bs->bs.length=ks.length
 | [],bs,h=>by
   simp only[Ar]at h;rw[h];rfl
 |k::r,bs,h=>by
  simp only[Ar]at h;obtain⟨b,t,rfl,_,h2⟩:=h;simp[Ar.len h2]
theorem Ar.at_ {w:World} {B:Nat}: ∀{ks:List Nd} {bs:List Nat},Ar w B ks bs-> ∀{i:Nat} {k:Nd},ks[i]? =some k-> ∃b,bs[i]? =some b/\Bt w B k b
 | [],bs,h,i,k,hi=>by simp at hi
 |x::r,bs,h,i,k,hi=>by
  simp only[Ar]at h;obtain⟨b,t,rfl,h1,h2⟩:=h
  cases i with
  |zero=>
   simp only[List.getElem?_cons_zero,Option.some.injEq]at hi;subst hi;exact⟨b,rfl,h1⟩
  |succ i=>
   simp only[List.getElem?_cons_succ]at hi ⊢;exact Ar.at_ h2 hi
theorem Ar.app {w:World} {B:Nat}: ∀{ks ks':List Nd} {bs bs':List Nat},Ar w B ks bs->Ar w B ks' bs'->Ar w B (ks++ks') (bs++bs')
 | [],ks',bs,bs',h,h'=>by
   simp only[Ar]at h;subst h;exact h'
 |k::r,ks',bs,bs',h,h'=>by
  simp only[Ar]at h;obtain⟨b,t,rfl,h1,h2⟩:=h;simp only[List.cons_append,Ar];exact⟨b,t++bs',rfl,h1,Ar.app h2 h'⟩
theorem Ar.one {w:World} {B:Nat} {k:Nd} {b:Nat} (h:Bt w B k b):Ar w B [k] [b]:=by
 simp only[Ar];exact⟨b, [],rfl,h,rfl⟩
theorem Ar.split {w:World} {B:Nat}: ∀{ks:List Nd} {bs:List Nat} (i:Nat),Ar w B ks bs->Ar w B (ks.take i) (bs.take i)/\Ar w B (ks.drop i) (bs.drop i)
 | [],bs,i,h=>by
   simp only[Ar]at h;subst h;simp[Ar]
 |k::r,bs,0,h=>by
  simp only[List.take_zero,List.drop_zero];exact⟨by simp only[Ar],h⟩
 |k::r,bs,i+1,h=>by
  simp only[Ar]at h;obtain⟨b,t,rfl,h1,h2⟩:=h;obtain⟨a1,a2⟩:=Ar.split i h2;simp only[List.take_succ_cons,List.drop_succ_cons,Ar];exact⟨⟨b,t.take i,rfl,h1,a1⟩,a2⟩
theorem Ar.set {w:World} {B:Nat}: ∀{ks:List Nd} {bs:List Nat} (i:Nat) {k:Nd} {b:Nat},Ar w B ks bs->Bt w B k b->Ar w B (ks.set i k) (bs.set i b)
 | [],bs,i,k,b,h,_=>by
   simp only[Ar]at h;subst h;simp[Ar]
 |x::r,bs,0,k,b,h,hk=>by
  simp only[Ar]at h;obtain⟨b',t,rfl,h1,h2⟩:=h;simp only[tk5,Ar];exact⟨b,t,rfl,hk,h2⟩
 |x::r,bs,i+1,k,b,h,hk=>by
  simp only[Ar]at h;obtain⟨b',t,rfl,h1,h2⟩:=h;simp only[tk6,Ar];exact⟨b',t.set i b,rfl,h1,Ar.set i h2 hk⟩
def Se (w:World) (B:Nat):Option (Nat×Nd)->Option Addr->Prop
 |none,p=>p=none
 |some (_,n),p=> ∃b,p=some ⟨b,0,none⟩/\Bt w B n b
theorem Se.below {w w':World} {B:Nat} {t:Option (Nat×Nd)} {p:Option Addr} (h:Se w B t p) (hb:Below B w w'):Se w' B t p:=by
 cases t with
 |none=>exact h
 |some t=>
  obtain⟨b,e,h1⟩:=h;exact⟨b,e,h1.below hb⟩
theorem Se.more {w:World} {B B':Nat} {t:Option (Nat×Nd)} {p:Option Addr} (h:Se w B t p) (hB:B<=B'):Se w B' t p:=by
 cases t with
 |none=>exact h
 |some t=>
  obtain⟨b,e,h1⟩:=h;exact⟨b,e,h1.more hB⟩
theorem Se.later {w w':World} {t:Option (Nat×Nd)} {p:Option Addr} (h:Se w w.heap.size t p) (hb:Below w.heap.size w w'):Se w' w'.heap.size t p:=(h.below hb).more hb.size
def Ir:List Int:= [34,92,47,8,12,10,13,9]
theorem Tz (k:Nat) (c:Int) (h:Ir[k]? =some c) (w:World):
 Calls Tryz.prog 84 #[.int .i64 k] w fun e w'=>e=.returned (.int .i64 c)/\Below w.heap.size w w':=by
 have hk:k<8:=(List.getElem?_eq_some_iff.1 h).1;rcases(by omega:k=0\/k=1\/k=2\/k=3\/k=4\/k=5\/k=6\/k=7)with rfl|rfl|rfl|rfl|rfl|rfl|rfl|rfl
 all_goals
  (obtain rfl:=Option.some.inj h
   clear h hk;go_enter Tryz.func84,Tryz.ntmps84;go_wp2;go_ret;exact⟨rfl,(Below.refl _ _).alloc (Nat.le_refl _) _⟩)
end Go.Proofs.YtdbejcbbhomdbaaGreatDoor
