/- Parts: A range over an iterator that yields a known list, by a body that may leave the function: the law that the walks use. No condition. -/
import Derived.Test.YtkmcjfkokoidcaaGreatDoorKFa1
import Derived.Test.YtkmcjfkokoidcaaGreatDoorKFa4
namespace Go.Proofs.YtkmcjfkokoidcaaGreatDoor
abbrev A5:=ByteArray×Val
inductive Nd where
 |leaf (es:List A5)
 |inner (ks:List Nd)
theorem Nd.ind {p:Nd->Prop} (h0: ∀es,p (.leaf es)) (h1: ∀ks,(∀k ∈ ks,p k)->p (.inner ks)): ∀n,p n:=by
 intro n;refine Nd.rec (motive_1:=p) (motive_2:=fun l=> ∀d ∈ l,p d) h0 h1 ?_ ?_ n
 . intro d hd
   cases hd
 . intro d r hd hr x hx;rcases List.mem_cons.1 hx with rfl|hx
   . exact hd
   . exact hr x hx
mutual
def Bi:Nd->List A5
 | .leaf es=>es
 | .inner ks=>Bg ks
def Bg:List Nd->List A5
 | []=> []
 |k::r=>Bi k++Bg r
end
theorem Be: ∀(a b:List Nd),Bg (a++b)=Bg a++Bg b
 | [],b=>rfl
 |x::r,b=>by simp only[List.cons_append,Bg,Be r b,List.append_assoc]
theorem Jp (x:Nd):Bg [x]=Bi x:=by simp[Bg]
theorem Amm {x:Nd} {l:List Nd} (h:x ∈ l): ∀e ∈ Bi x,e ∈ Bg l:=by
 induction l with
 |nil=>cases h
 |cons y r ih=>
  intro e he;simp only[Bg];rcases List.mem_cons.1 h with rfl|h
  . exact List.mem_append_left _ he
  . exact List.mem_append_right _ (ih h e he)
def Cf (k:ByteArray) (v:Val):List A5->List A5
 | []=> [(k,v)]
 |(a,x)::r=>if Dp a k then(a,x)::Cf k v r else if a=k then(k,v)::r else(k,v)::(a,x)::r
theorem Qi {k:ByteArray} {v:Val} {B:List A5}: ∀{A:List A5},(∀a ∈ A,Dp a.1 k=true)->Cf k v (A++B)=A++Cf k v B
 | [],_=>rfl
 |(a,x)::r,h=>by
  have h1:Dp a k=true:=h (a,x) (by simp);simp only[List.cons_append,Cf];rw[if_pos h1,Qi fun y hy=>h y (List.mem_cons_of_mem _ hy)]
theorem Xu {k:ByteArray} {v:Val}: ∀{C:List A5},(∀c ∈ C,Dp k c.1=true)->Cf k v C=(k,v)::C
 | [],_=>rfl
 |(a,x)::r,h=>by
  have h1:Dp k a=true:=h (a,x) (by simp);simp only[Cf];rw[if_neg (by rw[Ue h1];simp),if_neg];rintro rfl;rw[Ip]at h1
  cases h1
theorem Ri {k:ByteArray} {v:Val} {C:List A5} (h: ∀c ∈ C,Dp k c.1=true): ∀{B:List A5},Cf k v (B++C)=Cf k v B++C
 | []=>by rw[List.nil_append,Xu h];rfl
 |(a,x)::r=>by
  simp only[List.cons_append,Cf];by_cases h1:Dp a k=true
  . rw[if_pos h1,if_pos h1,Ri h];rfl
  . rw[if_neg h1,if_neg h1];by_cases h2:a=k
    . rw[if_pos h2,if_pos h2];rfl
    . rw[if_neg h2,if_neg h2];rfl
theorem Ll {k:ByteArray} {v:Val}: ∀(l:List A5),(Cf k v l).length<=l.length+1/\0<(Cf k v l).length
 | []=>by simp[Cf]
 |(a,x)::r=>by
  simp only[Cf];have ih:=Ll (k:=k) (v:=v) r;by_cases h1:Dp a k=true
  . rw[if_pos h1];simp;omega
  . rw[if_neg h1];by_cases h2:a=k
    . rw[if_pos h2];simp
    . rw[if_neg h2];simp
theorem Uw {k:ByteArray} {v:Val}: ∀{l:List A5} {e:A5},e ∈ Cf k v l->e=(k,v)\/e ∈ l
 | [],e,h=>by simp[Cf]at h;exact .inl h
 |(a,x)::r,e,h=>by
  simp only[Cf]at h;by_cases h1:Dp a k=true
  . rw[if_pos h1]at h;rcases List.mem_cons.1 h with rfl|h
    . exact .inr (by simp)
    . rcases Uw h with h|h
      . exact .inl h
      . exact .inr (List.mem_cons_of_mem _ h)
  . rw[if_neg h1]at h;by_cases h2:a=k
    . rw[if_pos h2]at h;rcases List.mem_cons.1 h with h|h
      . exact .inl h
      . exact .inr (List.mem_cons_of_mem _ h)
    . rw[if_neg h2]at h;rcases List.mem_cons.1 h with h|h
      . exact .inl h
      . exact .inr h
theorem Kc {k:ByteArray} {v:Val}: ∀{l:List A5},Ay l->Ay (Cf k v l)
 | [],_=>by simp[Cf,Ay]
 |(a,x)::r,h=>by
  obtain⟨h1,h2⟩:=List.pairwise_cons.1 h;simp only[Cf];by_cases hak:Dp a k=true
  . rw[if_pos hak];refine List.pairwise_cons.2 ⟨fun e he=> ?_,Kc h2⟩;rcases Uw he with rfl|he
    . exact hak
    . exact h1 e he
  . rw[if_neg hak];by_cases e:a=k
    . subst e;rw[if_pos rfl];exact List.pairwise_cons.2 ⟨h1,h2⟩
    . rw[if_neg e];have hka:Dp k a=true:=by
       rcases Kt a k with h|h|h
       . exact absurd h hak
       . exact absurd h e
       . exact h
      refine List.pairwise_cons.2 ⟨fun y hy=> ?_,h⟩;rcases List.mem_cons.1 hy with rfl|hy
      . exact hka
      . exact C0 hka (h1 y hy)
def Co:Nat->Nat->Nd->Prop
 |lo,0,.leaf es=>lo<=es.length/\es.length<=8
 |lo,h+1,.inner ks=>lo<=ks.length/\ks.length<=8/\ ∀k ∈ ks,Co 4 h k
 |_,_,_=>False
theorem Mg {a b:Nat} (hab:a<=b): ∀{h:Nat} {n:Nd},Co b h n->Co a h n
 |0,.leaf es,h=>⟨by have:=h.1;omega,h.2⟩
 |0,.inner ks,h=>absurd h (by simp[Co])
 |_+1,.leaf es,hn=>absurd hn (by simp[Co])
 |_+1,.inner ks,hn=>by
  simp only[Co]at hn ⊢;exact⟨by omega,hn.2⟩
theorem K9: ∀{h:Nat} {n:Nd} {lo:Nat},0<lo->Co lo h n->Bi n≠ []
 |0,.leaf es,_,h0,h=>by
  intro e;have h1:=h.1;have:es= []:=e;rw[this]at h1;simp at h1;omega
 |0,.inner ks,_,_,h=>absurd h (by simp[Co])
 |h+1,.leaf es,_,_,hn=>absurd hn (by simp[Co])
 |h+1,.inner ks,_,h0,hn=>by
  simp only[Co]at hn;obtain⟨h1,_,h3⟩:=hn
  match ks,h1 with
  | [],h1=>simp at h1;omega
  |x::r,_=>
   have:=K9 (by omega) (h3 x (by simp));simp only[Bi,Bg];intro e;exact this (List.append_eq_nil_iff.1 e).1
def A7 (n:Nd):ByteArray:=((Bi n).head?.map (·.1)).getD ByteArray.empty
theorem Im {n:Nd} (h:Bi n≠ []): ∃x r,Bi n=(A7 n,x)::r:=by
 unfold A7
 match hn:Bi n,h with
 |(a,x)::r,_=>exact⟨x,r,rfl⟩
def An (ks:List Nd) (k:ByteArray):Nat:=ks.findIdx (fun n=>Dp k (A7 n)) - 1
def Cu:List Nd->Nd
 | [x]=>x
 |ks=> .inner ks
theorem El {ks:List Nd} (h:2<=ks.length):Cu ks=.inner ks:=by
 match ks,h with
 |x::y::r,_=>rfl
def G9 (l:List A5):Nd×Option Nd:=if l.length<=8 then(.leaf l,none)else(.leaf (l.take 4),some (.leaf (l.drop 4)))
def Hh (l:List Nd):Nd×Option Nd:=if l.length<=8 then(Cu l,none)else(Cu (l.take 4),some (Cu (l.drop 4)))
def C8:Nat->Nd->ByteArray->Val->Nd×Option Nd
 |0,n,k,v=>G9 (Cf k v (Bi n))
 |_+1,.leaf es,k,v=>G9 (Cf k v es)
 |h+1,.inner ks,k,v=>Hh (ks.take (An ks k)++(C8 h (ks.getD (An ks k) (.leaf [])) k v).1::((C8 h (ks.getD (An ks k) (.leaf [])) k v).2.toList++ks.drop (An ks k+1)))
def W5 (r:Nd×Option Nd):List A5:=Bi r.1++Bg r.2.toList
theorem H8 {ks:List Nd} {k:ByteArray} {h:Nat} (h2:ks≠ []) (hk: ∀x ∈ ks,Co 4 h x) (ha:Ay (Bg ks)):
 ∃A x C,ks=A++x::C/\A.length=An ks k/\(∀a ∈ Bg A,Dp a.1 k=true)/\(∀c ∈ Bg C,Dp k c.1=true):=by
 have hlt:An ks k<ks.length:=by
  have:=List.findIdx_le_length (xs:=ks) (p:=fun n=>Dp k (A7 n));have:0<ks.length:=List.length_pos_iff.2 h2;unfold An;omega
 refine⟨ks.take (An ks k),ks[An ks k],ks.drop (An ks k+1), ?_,by rw[List.length_take];omega, ?_, ?_⟩
 . rw[List.getElem_cons_drop,List.take_append_drop]
 . intro a haa;have hj:An ks k≠0:=by
    intro e;rw[e]at haa;simp[Bg]at haa
   have hx:Dp k (A7 ks[An ks k])=false:=by
    have:=List.not_of_lt_findIdx (xs:=ks) (p:=fun n=>Dp k (A7 n)) (i:=An ks k) (by unfold An at hj ⊢;omega);simpa using this
   obtain⟨v,r,hf⟩:=Im (K9 (by omega) (hk ks[An ks k] (List.getElem_mem hlt)));have e:ks=ks.take (An ks k)++ks[An ks k]::ks.drop (An ks k+1):=by rw[List.getElem_cons_drop,List.take_append_drop]
   have ha':=ha;rw[e,Be]at ha';have h3:=(List.pairwise_append.1 ha').2.2 a haa (A7 ks[An ks k],v) (by simp only[Bg];rw[hf];simp);rcases Kt (A7 ks[An ks k]) k with h|h|h
   . exact C0 h3 h
   . rw[<-h];exact h3
   . rw[hx]at h;cases h
 . intro c hc;have e:ks=ks.take (An ks k)++ks[An ks k]::ks.drop (An ks k+1):=by rw[List.getElem_cons_drop,List.take_append_drop]
   have ha':=ha;rw[e,Be]at ha';have ha2:=(List.pairwise_append.1 ha').2.1;simp only[Bg]at ha2;by_cases hj:ks.findIdx (fun n=>Dp k (A7 n))=0
   . have hw:An ks k=0:=by unfold An;omega
     have hp:Dp k (A7 ks[An ks k])=true:=by
      have:=List.findIdx_getElem (xs:=ks) (p:=fun n=>Dp k (A7 n)) (w:=by rw[hj];exact List.length_pos_iff.2 h2);simp only[hj]at this;simpa[hw]using this
     obtain⟨v,r,hf⟩:=Im (K9 (by omega) (hk ks[An ks k] (List.getElem_mem hlt)));have h3:=(List.pairwise_append.1 ha2).2.2 (A7 ks[An ks k],v) (by rw[hf];simp) c hc;exact C0 hp h3
   . have hw:An ks k+1=ks.findIdx (fun n=>Dp k (A7 n)):=by unfold An;omega
     rw[hw]at hc ha2;by_cases hl:ks.findIdx (fun n=>Dp k (A7 n))<ks.length
     . have hp:Dp k (A7 ks[ks.findIdx (fun n=>Dp k (A7 n))])=true:=List.findIdx_getElem (xs:=ks) (p:=fun n=>Dp k (A7 n)) (w:=hl);have ha3:=(List.pairwise_append.1 ha2).2.1;rw[List.drop_eq_getElem_cons hl]at hc ha3;simp only[Bg]at hc ha3;obtain⟨v,r,hf⟩:=Im (K9 (by omega) (hk _ (List.getElem_mem hl)));rw[hf]at hc ha3;rw[List.cons_append]at hc ha3;rcases List.mem_cons.1 hc with rfl|hc
       . exact hp
       . exact C0 hp ((List.pairwise_cons.1 ha3).1 c hc)
     . rw[List.drop_eq_nil_of_le (by omega)]at hc;simp[Bg]at hc
def okR (lo h:Nat) (r:Nd×Option Nd):Prop:=Co lo h r.1/\ ∀m,r.2=some m->Co 4 h r.1/\Co 4 h m
theorem Aiw {l:List A5} {lo:Nat} (h4:lo<=4) (h0:lo<=l.length) (h9:l.length<=9):W5 (G9 l)=l/\okR lo 0 (G9 l):=by
 unfold G9;by_cases h:l.length<=8
 . rw[if_pos h];exact⟨by simp[W5,Bi,Bg],⟨h0,h⟩,fun m e=>by cases e⟩
 . rw[if_neg h];have ha:Co 4 0 (.leaf (l.take 4)):=⟨by rw[List.length_take];omega,by rw[List.length_take];omega⟩;refine⟨by simp[W5,Bi,Bg],Mg h4 ha,fun m e=>⟨ha, ?_⟩⟩
   cases e
   exact⟨by rw[List.length_drop];omega,by rw[List.length_drop];omega⟩
theorem Aix {l:List Nd} {h lo:Nat} (h4:lo<=4) (h0:lo<=l.length) (h2:2<=l.length) (h9:l.length<=9) (hk: ∀x ∈ l,Co 4 h x):W5 (Hh l)=Bg l/\okR lo (h+1) (Hh l):=by
 unfold Hh;by_cases h8:l.length<=8
 . rw[if_pos h8,El h2];exact⟨by simp[W5,Bi,Bg],⟨h0,h8,hk⟩,fun m e=>by cases e⟩
 . rw[if_neg h8,El (by rw[List.length_take];omega),El (by rw[List.length_drop];omega)];have ha:Co 4 (h+1) (.inner (l.take 4)):=⟨by rw[List.length_take];omega,by rw[List.length_take];omega,fun x hx=>hk x (List.mem_of_mem_take hx)⟩;refine⟨?_,Mg h4 ha,fun m e=>⟨ha, ?_⟩⟩
   . simp only[W5,Option.toList,Jp,Bi];rw[<-Be,List.take_append_drop]
   . cases e
     exact⟨by rw[List.length_drop];omega,by rw[List.length_drop];omega,fun x hx=>hk x (List.mem_of_mem_drop hx)⟩
theorem Agx {k:ByteArray} {v:Val}: ∀(l:List A5),l.length<=(Cf k v l).length
 | []=>by simp
 |(a,x)::r=>by
  have ih:=Agx (k:=k) (v:=v) r;simp only[Cf];by_cases h1:Dp a k=true
  . rw[if_pos h1];simp;omega
  . rw[if_neg h1];by_cases h2:a=k
    . rw[if_pos h2];simp
    . rw[if_neg h2];simp
theorem Qt: ∀(h:Nat) {n:Nd} {lo:Nat} {k:ByteArray} {v:Val},lo<=4->0<lo\/h=0->(0<h->2<=lo)->Co lo h n->Ay (Bi n)->W5 (C8 h n k v)=Cf k v (Bi n)/\okR lo h (C8 h n k v)
 |0,.leaf es,lo,k,v,h4,_,_,hn,_=>by
  have hl:=Ll (k:=k) (v:=v) es;have hg:=Agx (k:=k) (v:=v) es;have h1:=hn.1;have h2:=hn.2;simp only[C8,Bi];exact Aiw h4 (by omega) (by omega)
 |0,.inner ks,_,_,_,_,_,_,hn,_=>absurd hn (by simp[Co])
 |h+1,.leaf es,_,_,_,_,_,_,hn,_=>absurd hn (by simp[Co])
 |h+1,.inner ks,lo,k,v,h4,h0,hlo2,hn,ha=>by
  simp only[Co]at hn;obtain⟨h2,h8,hk⟩:=hn;have hlo:=hlo2 (by omega);have hne:ks≠ []:=by intro e;rw[e]at h2;simp at h2;omega
  obtain⟨A,x,C,e,hA,hlow,hhi⟩:=H8 (k:=k) hne hk ha;have hx:Co 4 h x:=hk x (by rw[e];simp);have hax:Ay (Bi x):=by
   have ha':Ay (Bg ks):=ha;rw[e,Be]at ha';have:=(List.pairwise_append.1 ha').2.1;simp only[Bg]at this;exact(List.pairwise_append.1 this).1
  obtain⟨i1,i2,i3⟩:=Qt h (k:=k) (v:=v) (Nat.le_refl 4) (.inl (by omega)) (fun _=>by omega) hx hax;have eg:ks.getD (An ks k) (.leaf [])=x:=by rw[<-hA,e];simp
  have et:ks.take (An ks k)=A:=by rw[<-hA,e];simp
  have ed:ks.drop (An ks k+1)=C:=by rw[<-hA,e];simp
  have hlen:ks.length=A.length+1+C.length:=by rw[e];simp;omega
  have hR:(C8 h x k v).2.toList.length<=1:=by cases (C8 h x k v).2<;>simp
  simp only[C8];rw[eg,et,ed];obtain⟨s1,s2⟩:=Aix (l:=A++(C8 h x k v).1::((C8 h x k v).2.toList++C)) (h:=h) h4 (by simp;omega) (by simp;omega) (by simp;omega) (fun y hy=>by
   rcases List.mem_append.1 hy with hy|hy
   . exact hk y (by rw[e];simp[hy])
   rcases List.mem_cons.1 hy with rfl|hy
   . exact i2
   rcases List.mem_append.1 hy with hy|hy
   . exact(i3 y (by simpa using hy)).2
   . exact hk y (by rw[e];simp[hy]))
  refine⟨?_,s2⟩;rw[s1,Be];simp only[Bg,Bi,Be];have i1':Bi (C8 h x k v).1++Bg (C8 h x k v).2.toList=Cf k v (Bi x):=i1;rw[<-List.append_assoc (Bi (C8 h x k v).1),i1',e,Be,Qi hlow];simp only[Bg];rw[Ri hhi]
def Lm:Option (Nat×Nd)->ByteArray->Val->Option (Nat×Nd)
 |none,k,v=>some (0,.leaf [(k,v)])
 |some (h,n),k,v=>match C8 h n k v with
  |(a,none)=>some (h,a)
  |(a,some b)=>some (h+1,Cu [a,b])
def Ba:Option (Nat×Nd)->List A5
 |none=> []
 |some (_,n)=>Bi n
def F7 (h:Nat):Nat:=if h=0 then 1 else 2
def Pb:Option (Nat×Nd)->Prop
 |none=>True
 |some (h,n)=>Co (F7 h) h n/\Ay (Bi n)
theorem Fb (h:Nat):F7 h<=2/\0<F7 h/\(0<h->2<=F7 h):=by
 unfold F7;by_cases e:h=0
 . rw[if_pos e];omega
 . rw[if_neg e];omega
theorem Am9 {t:Option (Nat×Nd)} (k:ByteArray) (v:Val) (ht:Pb t):Ba (Lm t k v)=Cf k v (Ba t)/\Pb (Lm t k v):=by
 match t,ht with
 |none,_=>exact⟨rfl,⟨by simp[F7],by simp⟩,by simp[Bi,Ay]⟩
 |some (h,n),⟨hn,ha⟩=>
  obtain⟨l1,l2,l3⟩:=Fb h;obtain⟨i1,i2,i3⟩:=Qt h (k:=k) (v:=v) (by omega) (.inl l2) l3 hn ha;have hp:=Kc (k:=k) (v:=v) ha
  match hr:C8 h n k v with
  |(a,none)=>
   have hP:Lm (some (h,n)) k v=some (h,a):=by simp only[Lm,hr]
   rw[hP];rw[hr]at i1 i2;have e:Bi a=Cf k v (Bi n):=by simpa[W5,Bg]using i1
   exact⟨e,i2,by rw[e];exact hp⟩
  |(a,some b)=>
   have hP:Lm (some (h,n)) k v=some (h+1,.inner [a,b]):=by simp only[Lm,hr];rfl
   rw[hP];rw[hr]at i1 i2 i3;have e:Bi (.inner [a,b])=Cf k v (Bi n):=by simpa[W5,Bg,Bi]using i1
   obtain⟨o1,o2⟩:=i3 b rfl;refine⟨e,⟨by unfold F7;simp,by simp,fun x hx=> ?_⟩, ?_⟩
   . rcases List.mem_cons.1 hx with rfl|hx
     . exact o1
     . obtain rfl:=List.mem_singleton.1 hx;exact o2
   . show Ay (Bi (.inner [a,b]));rw[e];exact hp
end Go.Proofs.YtkmcjfkokoidcaaGreatDoor
namespace Go.Proofs.YtkmcjfkokoidcaaGreatDoor
open Go.RowKit
mutual
def dV:Val->D
 | .mk k b n t l o=> .agg [.leaf (.int .i64 k),.leaf (.bool b),.leaf (.int .i64 n),.leaf (.string t),.row 6 (dL l),.row 7 (dO o)]
def dL:List Val->List D
 | []=> []
 |v::r=>dV v::dL r
def dO:List (ByteArray×Val)->List D
 | []=> []
 |p::r=>dP p::dO r
def dP:ByteArray×Val->D
 |(key,v)=> .agg [.leaf (.string key),dV v]
end
theorem O3: ∀l,dL l=l.map dV
 | []=>rfl
 |v::r=>by simp[dL,O3 r]
theorem Bo: ∀l,dO l=l.map dP
 | []=>rfl
 |v::r=>by simp[dO,Bo r]
theorem Fk (v:Val):(dV v).cells=6:=by
 obtain⟨k,b,n,t,l,o⟩:=v;rfl
theorem C7 (p:ByteArray×Val):(dP p).cells=7:=by
 obtain⟨k,v⟩:=p;simp only[dP,D.cells,L4,Fk]
theorem Aa9 (l:List Val): ∀d ∈ dL l,d.cells=6:=by
 rw[O3];intro d hd;obtain⟨v,_,rfl⟩:=List.mem_map.1 hd;exact Fk v
theorem Es (l:List (ByteArray×Val)): ∀d ∈ dO l,d.cells=7:=by
 rw[Bo];intro d hd;obtain⟨v,_,rfl⟩:=List.mem_map.1 hd;exact C7 v
theorem Qz (l:List Val):(dL l).length=l.length:=by rw[O3,List.length_map]
theorem Av (l:List (ByteArray×Val)):(dO l).length=l.length:=by rw[Bo,List.length_map]
theorem Af.six {w:World} {B:Nat} {a b c d:Value} {e f:D} {cs:List Value}:
 Af w B [.leaf a,.leaf b,.leaf c,.leaf d,e,f] cs ↔ ∃c4 c5,cs= [a,b,c,d]++(c4++c5)/\a.oneCell'=true/\b.oneCell'=true/\c.oneCell'=true/\d.oneCell'=true/\Ag w B e c4/\Ag w B f c5:=by
 constructor
 . rintro⟨_,_,rfl,⟨rfl,ha⟩,_,_,rfl,⟨rfl,hb⟩,_,_,rfl,⟨rfl,hc⟩,_,_,rfl,⟨rfl,hd⟩,c4,_,rfl,h4,c5,_,rfl,h5,rfl⟩;exact⟨c4,c5,by simp,ha,hb,hc,hd,h4,h5⟩
 . rintro⟨c4,c5,rfl,ha,hb,hc,hd,h4,h5⟩;exact⟨[a],_,rfl,⟨rfl,ha⟩, [b],_,rfl,⟨rfl,hb⟩, [c],_,rfl,⟨rfl,hc⟩, [d],_,rfl,⟨rfl,hd⟩,c4,_,rfl,h4,c5, [],by simp,h5,rfl⟩
theorem Af.toL {w:World} {B:Nat} {g:Nat}: ∀{l:List Val},(∀v ∈ l,∀cs,Ag w B (dV v) cs->Ac w B v cs)-> ∀{ns:List Value} {off:Nat},Af w B (dL l) ns->(∀j u,ns[j]? =some u->w.cell? ⟨g,off+j,none⟩=some u)->Ao w B l g off
 | [],_,_,_,_,_=>by simp[Ao]
 |v::r,ih,ns,off,h,hc=>by
  obtain⟨c1,c2,rfl,h1,h2⟩:=h;have hl:c1.length=6:=h1.len.1.trans (Fk v);simp only[Ao];refine⟨⟨c1,ih v (by simp) c1 h1,fun j u hu=>hc j u (by rw[List.getElem?_append_left (List.getElem?_eq_some_iff.1 hu).1];exact hu)⟩,Af.toL (fun x hx=>ih x (by simp[hx])) h2 (fun j u hu=> ?_)⟩;rw[show off+6+j=off+(6+j)from by omega];refine hc (6+j) u ?_;rw[List.getElem?_append_right (by omega),hl,show 6+j - 6=j from by omega];exact hu
theorem Af.toO {w:World} {B:Nat} {g:Nat}: ∀{l:List (ByteArray×Val)},(∀m ∈ l,∀cs,Ag w B (dV m.2) cs->Ac w B m.2 cs)-> ∀{ns:List Value} {off:Nat},Af w B (dO l) ns->(∀j u,ns[j]? =some u->w.cell? ⟨g,off+j,none⟩=some u)->Ap w B l g off
 | [],_,_,_,_,_=>by simp[Ap]
 |(key,v)::r,ih,ns,off,h,hc=>by
  obtain⟨c1,c2,rfl,h1,h2⟩:=h;obtain⟨_,c3,rfl,⟨rfl,_⟩,cv,c4,rfl,h3,rfl⟩:=h1;have hl:cv.length=6:=h3.len.1.trans (Fk v);simp only[Ap,Lv];refine⟨⟨by have:=hc 0 (.string key) rfl;simpa using this,cv,ih (key,v) (by simp) cv h3,fun j u hu=> ?_⟩,Af.toO (fun x hx=>ih x (by simp[hx])) h2 (fun j u hu=> ?_)⟩
  . have h5:=(List.getElem?_eq_some_iff.1 hu).1;rw[show off+1+j=off+(j+1)from by omega];refine hc (j+1) u ?_;simp only[List.append_nil,List.cons_append,List.nil_append,List.getElem?_cons_succ];rw[List.getElem?_append_left h5];exact hu
  . rw[show off+7+j=off+(6+j+1)from by omega];refine hc (6+j+1) u ?_;simp only[List.append_nil,List.cons_append,List.nil_append,List.getElem?_cons_succ];rw[List.getElem?_append_right (by omega),hl,show 6+j - 6=j from by omega];exact hu
theorem Cg {w:World} {B:Nat}: ∀(v:Val) cs,Ag w B (dV v) cs->Ac w B v cs:=by
 refine Val.ind ?_;intro k b n t l o hl ho cs h;simp only[dV,Ag]at h;obtain⟨c4,c5,rfl,_,_,_,_,⟨a4,n4,rfl,_,ns4,h4,i4⟩,⟨a5,n5,rfl,_,ns5,h5,i5⟩⟩:=Af.six.1 h;simp only[Ac];refine⟨a4,n4,a5,n5,by simp[Ei,Qz,Av], ?_, ?_⟩
 . rcases i4 with e|⟨g,off,e,hg,hc⟩
   . refine .inl ?_
     cases l with
     |nil=>rfl
     |cons x r=>simp[dL]at e
   . exact .inr ⟨g,off,e,hg,Af.toL hl h4 hc⟩
 . rcases i5 with e|⟨g,off,e,hg,hc⟩
   . refine .inl ?_
     cases o with
     |nil=>rfl
     |cons x r=>simp[dO]at e
   . exact .inr ⟨g,off,e,hg,Af.toO ho h5 hc⟩
theorem Af.ofL {w:World} {B:Nat} {g:Nat}: ∀{l:List Val},(∀v ∈ l,∀cs,Ac w B v cs->Ag w B (dV v) cs)-> ∀{off:Nat},Ao w B l g off-> ∃ns,Af w B (dL l) ns/\ ∀j u,ns[j]? =some u->w.cell? ⟨g,off+j,none⟩=some u
 | [],_,_,_=>⟨[],rfl,fun j u h=>by simp at h⟩
 |v::r,ih,off,h=>by
  simp only[Ao]at h;obtain⟨⟨cs,h1,hc⟩,h2⟩:=h;have h1':=ih v (by simp) cs h1;have hl:cs.length=6:=h1'.len.1.trans (Fk v);obtain⟨ns,h3,h4⟩:=Af.ofL (fun x hx=>ih x (by simp[hx])) h2;refine⟨cs++ns,⟨cs,ns,rfl,h1',h3⟩,fun j u hu=> ?_⟩;by_cases hj:j<6
  . rw[List.getElem?_append_left (by omega)]at hu;exact hc j u hu
  . rw[List.getElem?_append_right (by omega),hl]at hu;have:=h4 (j - 6) u hu
    rwa [show off+6+(j - 6)=off+j from by omega]at this
theorem Af.ofO {w:World} {B:Nat} {g:Nat}: ∀{l:List (ByteArray×Val)},(∀m ∈ l,∀cs,Ac w B m.2 cs->Ag w B (dV m.2) cs)-> ∀{off:Nat},Ap w B l g off-> ∃ns,Af w B (dO l) ns/\ ∀j u,ns[j]? =some u->w.cell? ⟨g,off+j,none⟩=some u
 | [],_,_,_=>⟨[],rfl,fun j u h=>by simp at h⟩
 |(key,v)::r,ih,off,h=>by
  simp only[Ap,Lv]at h;obtain⟨⟨h0,cs,h1,hc⟩,h2⟩:=h;have h1':=ih (key,v) (by simp) cs h1;have hl:cs.length=6:=h1'.len.1.trans (Fk v);obtain⟨ns,h3,h4⟩:=Af.ofO (fun x hx=>ih x (by simp[hx])) h2;refine⟨(.string key::cs)++ns,⟨.string key::cs,ns,rfl,⟨[.string key],cs,rfl,⟨rfl,rfl⟩,cs, [],by simp,h1',rfl⟩,h3⟩,fun j u hu=> ?_⟩
  match j,hu with
  |0,hu=>
   simp at hu;subst hu;exact h0
  |j+1,hu=>
   simp only[List.cons_append,List.getElem?_cons_succ]at hu;by_cases hj:j<6
   . rw[List.getElem?_append_left (by omega)]at hu;have:=hc j u hu
     rwa [show off+1+j=off+(j+1)from by omega]at this
   . rw[List.getElem?_append_right (by omega),hl]at hu;have:=h4 (j - 6) u hu
     rwa [show off+7+(j - 6)=off+(j+1)from by omega]at this
theorem Ej {w:World} {B:Nat}: ∀(v:Val) cs,Ac w B v cs->Ag w B (dV v) cs:=by
 refine Val.ind ?_;intro k b n t l o hl ho cs h;simp only[Ac]at h;obtain⟨la,lc,oa,oc,rfl,h1,h2⟩:=h;simp only[dV,Ag];refine Af.six.2 ⟨[.slice la l.length lc], [.slice oa o.length oc],rfl,rfl,rfl,rfl,rfl, ?_, ?_⟩
 . rcases h1 with rfl|⟨g,off,e,hg,h1⟩
   . exact⟨la,lc,rfl,Aa9 _, [],rfl,.inl rfl⟩
   . obtain⟨ns,h3,h4⟩:=Af.ofL hl h1;exact⟨la,lc,by rw[Qz],Aa9 _,ns,h3,.inr ⟨g,off,e,hg,h4⟩⟩
 . rcases h2 with rfl|⟨g,off,e,hg,h2⟩
   . exact⟨oa,oc,rfl,Es _, [],rfl,.inl rfl⟩
   . obtain⟨ns,h3,h4⟩:=Af.ofO ho h2;exact⟨oa,oc,by rw[Av],Es _,ns,h3,.inr ⟨g,off,e,hg,h4⟩⟩
def Af7 {α:Type} (P:Program) (gf:Nat) (lb:Array Value) (encs:α->Array Value) (xs:List α) (N:World->Prop):Prop:=
 ∀(n l:Nat) (J:List α->World->Prop) (Jx:World->Prop) (W:World),(∀s A B,J s A->Below A.heap.size A B->J s B)->(∀A B,Jx A->Below A.heap.size A B->Jx B)->(∀s A,J s A->N A)->
  (∀pre x rest A,xs=pre++x::rest->J pre A->YieldAt Fence.wide n P l (encs x) A fun e B=>(e=.returned (.bool true)/\J (pre++ [x]) B)\/(e=.returned (.bool false)/\Jx B))->
  J [] W->CallsIn Fence.wide (n+1) P gf (#[.func (.yield l) #[] #[]]++lb) W fun e B=>(∃v,e=.returned v)/\(J xs B\/Jx B)
def N4 (I Ix:World->Prop) (d:Nat) (W:World):Exit->Act->World->Prop
 | .normal,_,W'=>W'.heap[d]? =W.heap[d]? /\W'.heap[d+1]? =W.heap[d+1]? /\I W'
 | .ret,_,W'=>W'.heap[d]? =W.heap[d]? /\W'.heap[d+1]? =W.heap[d+1]? /\Ix W'
 |_,_,_=>False
theorem Wj {α:Type} {P:Program} {g:Operand} {ps:Array Tmp} {assign body:Code} {Q:Exit->Act->World->Prop} {a:Act} {w:World} {n:Nat}
 {gf:Nat} {lb:Array Value} (hg:a.eval g=.func (.func gf) #[] lb) (eg: ∀args w,(callFunc gf args).run P w=.ok (.enter gf args) w)
 {encs:α->Array Value} {xs:List α} {N:World->Prop} (hit:Af7 P gf lb encs xs N) (hps: ∀x,(encs x).size=ps.size)
 (I:List α->World->Prop) (Ix:World->Prop) (hIn: ∀s A B,I s A->Below A.heap.size A B->I s B) (hXn: ∀A B,Ix A->Below A.heap.size A B->Ix B)
 (hXp: ∀A k o o',Ix A->A.heap[k]? =some o->o.isCells=false->(k=w.heap.size\/k=w.heap.size+1)->Ix (A.putObj k o'))
 (hIp: ∀s A k o o',I s A->A.heap[k]? =some o->o.isCells=false->(k=w.heap.size\/k=w.heap.size+1)->I s (A.putObj k o'))
 (hIb: ∀s A,I s A->N A) (h0:I [] w) (a₁:α->Act)
 (hassign: ∀(l:Nat) (x:α) (W:World) (K:Act->World->Prop),K (a₁ x) W->
   assign.wpIn (Fence.wide.inRound l) n P (Exit.then K (fun _ _ _=>False)) {tmps:=(ps.zip (encs x)).foldl (fun t (p,v)=>t.setIfInBounds p v) a.tmps,defers:= []} W)
 (hbody: ∀(l:Nat) (pre:List α) (x:α) (rest:List α) (W:World),xs=pre++x::rest->I pre W->(∃ds,W.heap[w.heap.size]? =some (.deferred ds))->(∃r,W.heap[w.heap.size+1]? =some (.loop r))->
   body.wpIn (Fence.wide.inRound l) n P (N4 (I (pre++ [x])) Ix w.heap.size W) (a₁ x) W)
 (hstop: ∀(W:World),Ix W->W.heap[w.heap.size]? =some (.deferred (some []))->Code.ret.wpIn Fence.wide (n+1+1) P Q {a with defers:={target:=.collected w.heap.size,args:= #[]}::a.defers} W)
 (hdone: ∀(W:World),I xs W->W.heap[w.heap.size]? =some (.deferred (some []))->Q .normal {a with defers:={target:=.collected w.heap.size,args:= #[]}::a.defers} W):
 (Code.rangeFunc g ps assign body).wpIn Fence.wide (n+1+1) P Q a w:=by
 refine wpIn_rangeFunc ?_;intro fn hfn;have hro:Fence.wide.round=none:=rfl;rw[hro];obtain⟨rec,hrec⟩: ∃rec:LoopState->Option Code->Loop,rec=fun st pe=>{state:=st,pending:=pe,fn,tmps:=a.tmps,params:=ps,assign,body,defers:=w.heap.size}:=⟨_,rfl⟩;obtain⟨W1,hW1⟩: ∃W1,(w.alloc (.deferred (some []))).alloc (.loop (rec .ready none))=W1:=⟨_,rfl⟩;have hL1:W1.heap[w.heap.size+1]? =some (.loop (rec .ready none)):=by
  rw[<-hW1];have:=World.alloc_heap_new (w.alloc (.deferred (some []))) (.loop (rec .ready none));rwa [World.size_alloc]at this
 have hK1:W1.heap[w.heap.size]? =some (.deferred (some [])):=by
  rw[<-hW1];exact(Below.heap_alloc _ _ _ (by simp)).trans (World.alloc_heap_new w _)
 have hI1:I [] W1:=by
  rw[<-hW1];exact hIn _ _ _ h0 (((Below.refl _ w).alloc (Nat.le_refl _) _).alloc (by simp) _)
 refine⟨w.heap.size+1, [{target:=.collected w.heap.size,args:= #[]}],W1,{target:=.fn (.func gf) lb,args:= #[.func (.yield (w.heap.size+1)) #[] #[]]},W1,gf,
  #[.func (.yield (w.heap.size+1)) #[] #[]]++lb,W1, ?_, ?_, ?_, ?_,fun h=>by simp[Fence.wide]at h, ?_⟩
 . rw[<-hW1,hrec];exact run_enterLoop_outer _ _ _ _ _
 . simp only[resolve,hg];simp[go_sem]
 . intro f' _;trivial
 . simp[invoke,go_sem,eg]
 . refine(hit n (w.heap.size+1)
    (fun pre W=>I pre W/\W.heap[w.heap.size+1]? =some (.loop (rec .ready none))/\W.heap[w.heap.size]? =some (.deferred (some [])))
    (fun W=>Ix W/\W.heap[w.heap.size+1]? =some (.loop (rec .done (some .ret)))/\W.heap[w.heap.size]? =some (.deferred (some [])))
    W1 (fun s A B hs hb=>⟨hIn s A B hs.1 hb,(hb.block _ (Array.getElem?_eq_some_iff.1 hs.2.1).1).trans hs.2.1,(hb.block _ (Array.getElem?_eq_some_iff.1 hs.2.2).1).trans hs.2.2⟩)
    (fun A B hs hb=>⟨hXn A B hs.1 hb,(hb.block _ (Array.getElem?_eq_some_iff.1 hs.2.1).1).trans hs.2.1,(hb.block _ (Array.getElem?_eq_some_iff.1 hs.2.2).1).trans hs.2.2⟩)
    (fun s A hs=>hIb s A hs.1) ?_ ⟨hI1,hL1,hK1⟩).mono ?_
   ·
    rintro pre x rest W hx ⟨hi,hl,hk⟩;have hlt:w.heap.size+1<W.heap.size:=(Array.getElem?_eq_some_iff.1 hl).1;have hy:=run_yield (P:=P) (args:=encs x) hl (by rw[hrec];exact hps x);rw[hrec]at hy;refine⟨fn,_,assign,body,hy,roundIn_of_wpIn trivial (hassign _ x W _ ⟨_,run_beginRound hl (by rw[hrec]), ?_⟩)⟩;have hl2:(W.putObj (w.heap.size+1) (.loop {rec .ready none with state:=.busy})).heap[w.heap.size+1]? =some (.loop {rec .ready none with state:=.busy}):=World.putObj_heap_same hlt;have hk2:(W.putObj (w.heap.size+1) (.loop {rec .ready none with state:=.busy})).heap[w.heap.size]? =some (.deferred (some [])):=(World.putObj_heap_other (by omega)).trans hk;refine wpIn_mono (hbody _ pre x rest _ hx (hIp _ _ _ _ _ hi hl rfl (.inr rfl)) ⟨_,hk2⟩ ⟨_,hl2⟩) ?_;rintro e a3 W3 hp
    cases e with
    |normal=>
     obtain⟨h1,h2,hi3⟩:=hp;have hl3:=h2.trans hl2;have hk3:=h1.trans hk2;have hr:=run_endRound (P:=P) none hl3;rw[hrec]at hr;refine⟨_,_,hr,.inl ⟨rfl,hIp _ _ _ _ _ hi3 hl3 rfl (.inr rfl), ?_, ?_⟩⟩
     . rw[World.putObj_heap_same (Array.getElem?_eq_some_iff.1 hl3).1,hrec];rfl
     . exact(World.putObj_heap_other (by omega)).trans hk3
    |ret=>
     obtain⟨h1,h2,hi3⟩:=hp;have hl3:=h2.trans hl2;have hk3:=h1.trans hk2;have hr:=run_endRound (P:=P) (some .ret) hl3;rw[hrec]at hr;refine⟨_,_,hr,.inr ⟨rfl,hXp _ _ _ _ hi3 hl3 rfl (.inr rfl), ?_, ?_⟩⟩
     . rw[World.putObj_heap_same (Array.getElem?_eq_some_iff.1 hl3).1,hrec];rfl
     . exact(World.putObj_heap_other (by omega)).trans hk3
    |exit id=>exact hp.elim
    |goto t=>exact hp.elim
    |panic ch=>exact hp.elim
    |outgrown=>exact hp.elim
   ·
    rintro e W2 ⟨⟨v,rfl⟩,⟨hi,hl,hk⟩|⟨hi,hl,hk⟩⟩
    . exact⟨none,_,by have:=run_endLoop (P:=P) hl (by rw[hrec];simp);rw[hrec]at this;exact this,hdone _ (hIp _ _ _ _ _ hi hl rfl (.inr rfl)) ((World.putObj_heap_other (by omega)).trans hk)⟩
    . exact⟨some .ret,_,by have:=run_endLoop (P:=P) hl (by rw[hrec];simp);rw[hrec]at this;exact this,hstop _ (hXp _ _ _ _ hi hl rfl (.inr rfl)) ((World.putObj_heap_other (by omega)).trans hk)⟩
end Go.Proofs.YtkmcjfkokoidcaaGreatDoor
