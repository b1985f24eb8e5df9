/- Parts: Maps cell by cell, whatever their elements: an entry stored, an entry looked up. Plain. No condition. -/
import Derived.Maps.OwnSet
import Derived.Test.YtkmcjfkokoidcaaGreatDoorKFb2
import Derived.Test.YtkmcjfkokoidcaaGreatDoorKFb3
import Derived.Test.YtkmcjfkokoidcaaGreatDoorKFb4
set_option maxHeartbeats 20000000
set_option maxRecDepth 100000
namespace Go.Proofs.YtkmcjfkokoidcaaGreatDoor
abbrev Bj:=ByteArray×Val
inductive Nd where
 |leaf (es:List Bj)
 |inner (ks:List Nd)
theorem Nd.ind {p:Nd->Prop} (h0: ∀es,p (.leaf es)) (h1: ∀ks,(∀k ∈ ks,p k)->p (.inner ks)): ∀n,p n:=by
 intro n;refine Nd.rec (motive_1:=p) (motive_2:=fun l=> ∀d ∈ l,p d) h0 h1 ?_ ?_ n
 . intro d hd
   cases hd
 . intro d r hd hr x hx;rcases List.mem_cons.1 hx with rfl|hx
   . exact hd
   . exact hr x hx
mutual
def Cw:Nd->List Bj
 | .leaf es=>es
 | .inner ks=>Cg ks
def Cg:List Nd->List Bj
 | []=> []
 |k::r=>Cw k++Cg r
end
theorem Cn: ∀(a b:List Nd),Cg (a++b)=Cg a++Cg b
 | [],b=>rfl
 |x::r,b=>by simp only[List.cons_append,Cg,Cn r b,List.append_assoc]
theorem Nc (x:Nd):Cg [x]=Cw x:=by simp[Cg]
theorem Afz {x:Nd} {l:List Nd} (h:x ∈ l): ∀e ∈ Cw x,e ∈ Cg l:=by
 induction l with
 |nil=>cases h
 |cons y r ih=>
  intro e he;simp only[Cg];rcases List.mem_cons.1 h with rfl|h
  . exact List.mem_append_left _ he
  . exact List.mem_append_right _ (ih h e he)
def Cm (k:ByteArray) (v:Val):List Bj->List Bj
 | []=> [(k,v)]
 |(a,x)::r=>if C8 a k then(a,x)::Cm k v r else if a=k then(k,v)::r else(k,v)::(a,x)::r
theorem Np {k:ByteArray} {v:Val} {B:List Bj}: ∀{A:List Bj},(∀a ∈ A,C8 a.1 k=true)->Cm k v (A++B)=A++Cm k v B
 | [],_=>rfl
 |(a,x)::r,h=>by
  have h1:C8 a k=true:=h (a,x) (by simp);simp only[List.cons_append,Cm];rw[if_pos h1,Np fun y hy=>h y (List.mem_cons_of_mem _ hy)]
theorem Tr {k:ByteArray} {v:Val}: ∀{C:List Bj},(∀c ∈ C,C8 k c.1=true)->Cm k v C=(k,v)::C
 | [],_=>rfl
 |(a,x)::r,h=>by
  have h1:C8 k a=true:=h (a,x) (by simp);simp only[Cm];rw[if_neg (by rw[Ro h1];simp),if_neg];rintro rfl;rw[Jz]at h1
  cases h1
theorem Ow {k:ByteArray} {v:Val} {C:List Bj} (h: ∀c ∈ C,C8 k c.1=true): ∀{B:List Bj},Cm k v (B++C)=Cm k v B++C
 | []=>by rw[List.nil_append,Tr h];rfl
 |(a,x)::r=>by
  simp only[List.cons_append,Cm];by_cases h1:C8 a k=true
  . rw[if_pos h1,if_pos h1,Ow h];rfl
  . rw[if_neg h1,if_neg h1];by_cases h2:a=k
    . rw[if_pos h2,if_pos h2];rfl
    . rw[if_neg h2,if_neg h2];rfl
theorem Je {k:ByteArray} {v:Val}: ∀(l:List Bj),(Cm k v l).length<=l.length+1/\0<(Cm k v l).length
 | []=>by simp[Cm]
 |(a,x)::r=>by
  simp only[Cm];have ih:=Je (k:=k) (v:=v) r;by_cases h1:C8 a k=true
  . rw[if_pos h1];simp;omega
  . rw[if_neg h1];by_cases h2:a=k
    . rw[if_pos h2];simp
    . rw[if_neg h2];simp
theorem Xz {k:ByteArray} {v:Val}: ∀{l:List Bj} {e:Bj},e ∈ Cm k v l->e=(k,v)\/e ∈ l
 | [],e,h=>by simp[Cm]at h;exact .inl h
 |(a,x)::r,e,h=>by
  simp only[Cm]at h;by_cases h1:C8 a k=true
  . rw[if_pos h1]at h;rcases List.mem_cons.1 h with rfl|h
    . exact .inr (by simp)
    . rcases Xz h with h|h
      . exact .inl h
      . exact .inr (List.mem_cons_of_mem _ h)
  . rw[if_neg h1]at h;by_cases h2:a=k
    . rw[if_pos h2]at h;rcases List.mem_cons.1 h with h|h
      . exact .inl h
      . exact .inr (List.mem_cons_of_mem _ h)
    . rw[if_neg h2]at h;rcases List.mem_cons.1 h with h|h
      . exact .inl h
      . exact .inr h
theorem Ks {k:ByteArray} {v:Val}: ∀{l:List Bj},B8 l->B8 (Cm k v l)
 | [],_=>by simp[Cm,B8]
 |(a,x)::r,h=>by
  obtain⟨h1,h2⟩:=List.pairwise_cons.1 h;simp only[Cm];by_cases hak:C8 a k=true
  . rw[if_pos hak];refine List.pairwise_cons.2 ⟨fun e he=> ?_,Ks h2⟩;rcases Xz he with rfl|he
    . exact hak
    . exact h1 e he
  . rw[if_neg hak];by_cases e:a=k
    . subst e;rw[if_pos rfl];exact List.pairwise_cons.2 ⟨h1,h2⟩
    . rw[if_neg e];have hka:C8 k a=true:=by
       rcases Lf a k with h|h|h
       . exact absurd h hak
       . exact absurd h e
       . exact h
      refine List.pairwise_cons.2 ⟨fun y hy=> ?_,h⟩;rcases List.mem_cons.1 hy with rfl|hy
      . exact hka
      . exact De hka (h1 y hy)
def Ga:Nat->Nat->Nd->Prop
 |lo,0,.leaf es=>lo<=es.length/\es.length<=8
 |lo,h+1,.inner ks=>lo<=ks.length/\ks.length<=8/\ ∀k ∈ ks,Ga 4 h k
 |_,_,_=>False
theorem Abh {a b:Nat} (hab:a<=b): ∀{h:Nat} {n:Nd},Ga b h n->Ga a h n
 |0,.leaf es,h=>⟨by have:=h.1;omega,h.2⟩
 |0,.inner ks,h=>absurd h (by simp[Ga])
 |_+1,.leaf es,hn=>absurd hn (by simp[Ga])
 |_+1,.inner ks,hn=>by
  simp only[Ga]at hn ⊢;exact⟨by omega,hn.2⟩
theorem Mg: ∀{h:Nat} {n:Nd} {lo:Nat},0<lo->Ga lo h n->Cw n≠ []
 |0,.leaf es,_,h0,h=>by
  intro e;have h1:=h.1;have:es= []:=e;rw[this]at h1;simp at h1;omega
 |0,.inner ks,_,_,h=>absurd h (by simp[Ga])
 |h+1,.leaf es,_,_,hn=>absurd hn (by simp[Ga])
 |h+1,.inner ks,_,h0,hn=>by
  simp only[Ga]at hn;obtain⟨h1,_,h3⟩:=hn
  match ks,h1 with
  | [],h1=>simp at h1;omega
  |x::r,_=>
   have:=Mg (by omega) (h3 x (by simp));simp only[Cw,Cg];intro e;exact this (List.append_eq_nil_iff.1 e).1
def Av (n:Nd):ByteArray:=((Cw n).head?.map (·.1)).getD ByteArray.empty
theorem Gd {n:Nd} (h:Cw n≠ []): ∃x r,Cw n=(Av n,x)::r:=by
 unfold Av
 match hn:Cw n,h with
 |(a,x)::r,_=>exact⟨x,r,rfl⟩
def Ay (ks:List Nd) (k:ByteArray):Nat:=ks.findIdx (fun n=>C8 k (Av n)) - 1
def Gy:List Nd->Nd
 | [x]=>x
 |ks=> .inner ks
theorem Jy {ks:List Nd} (h:2<=ks.length):Gy ks=.inner ks:=by
 match ks,h with
 |x::y::r,_=>rfl
def F6 (l:List Bj):Nd×Option Nd:=if l.length<=8 then(.leaf l,none)else(.leaf (l.take 4),some (.leaf (l.drop 4)))
def F7 (l:List Nd):Nd×Option Nd:=if l.length<=8 then(Gy l,none)else(Gy (l.take 4),some (Gy (l.drop 4)))
def Cp:Nat->Nd->ByteArray->Val->Nd×Option Nd
 |0,n,k,v=>F6 (Cm k v (Cw n))
 |_+1,.leaf es,k,v=>F6 (Cm k v es)
 |h+1,.inner ks,k,v=>F7 (ks.take (Ay ks k)++(Cp h (ks.getD (Ay ks k) (.leaf [])) k v).1::((Cp h (ks.getD (Ay ks k) (.leaf [])) k v).2.toList++ks.drop (Ay ks k+1)))
def flR (r:Nd×Option Nd):List Bj:=Cw r.1++Cg r.2.toList
theorem N4 {ks:List Nd} {k:ByteArray} {h:Nat} (h2:ks≠ []) (hk: ∀x ∈ ks,Ga 4 h x) (ha:B8 (Cg ks)):
 ∃A x C,ks=A++x::C/\A.length=Ay ks k/\(∀a ∈ Cg A,C8 a.1 k=true)/\(∀c ∈ Cg C,C8 k c.1=true):=by
 have hlt:Ay ks k<ks.length:=by
  have:=List.findIdx_le_length (xs:=ks) (p:=fun n=>C8 k (Av n));have:0<ks.length:=List.length_pos_iff.2 h2;unfold Ay;omega
 refine⟨ks.take (Ay ks k),ks[Ay ks k],ks.drop (Ay ks k+1), ?_,by rw[List.length_take];omega, ?_, ?_⟩
 . rw[List.getElem_cons_drop,List.take_append_drop]
 . intro a haa;have hj:Ay ks k≠0:=by
    intro e;rw[e]at haa;simp[Cg]at haa
   have hx:C8 k (Av ks[Ay ks k])=false:=by
    have:=List.not_of_lt_findIdx (xs:=ks) (p:=fun n=>C8 k (Av n)) (i:=Ay ks k) (by unfold Ay at hj ⊢;omega);simpa using this
   obtain⟨v,r,hf⟩:=Gd (Mg (by omega) (hk ks[Ay ks k] (List.getElem_mem hlt)));have e:ks=ks.take (Ay ks k)++ks[Ay ks k]::ks.drop (Ay ks k+1):=by rw[List.getElem_cons_drop,List.take_append_drop]
   have ha':=ha;rw[e,Cn]at ha';have h3:=(List.pairwise_append.1 ha').2.2 a haa (Av ks[Ay ks k],v) (by simp only[Cg];rw[hf];simp);rcases Lf (Av ks[Ay ks k]) k with h|h|h
   . exact De h3 h
   . rw[<-h];exact h3
   . rw[hx]at h;cases h
 . intro c hc;have e:ks=ks.take (Ay ks k)++ks[Ay ks k]::ks.drop (Ay ks k+1):=by rw[List.getElem_cons_drop,List.take_append_drop]
   have ha':=ha;rw[e,Cn]at ha';have ha2:=(List.pairwise_append.1 ha').2.1;simp only[Cg]at ha2;by_cases hj:ks.findIdx (fun n=>C8 k (Av n))=0
   . have hw:Ay ks k=0:=by unfold Ay;omega
     have hp:C8 k (Av ks[Ay ks k])=true:=by
      have:=List.findIdx_getElem (xs:=ks) (p:=fun n=>C8 k (Av n)) (w:=by rw[hj];exact List.length_pos_iff.2 h2);simp only[hj]at this;simpa[hw]using this
     obtain⟨v,r,hf⟩:=Gd (Mg (by omega) (hk ks[Ay ks k] (List.getElem_mem hlt)));have h3:=(List.pairwise_append.1 ha2).2.2 (Av ks[Ay ks k],v) (by rw[hf];simp) c hc;exact De hp h3
   . have hw:Ay ks k+1=ks.findIdx (fun n=>C8 k (Av n)):=by unfold Ay;omega
     rw[hw]at hc ha2;by_cases hl:ks.findIdx (fun n=>C8 k (Av n))<ks.length
     . have hp:C8 k (Av ks[ks.findIdx (fun n=>C8 k (Av n))])=true:=List.findIdx_getElem (xs:=ks) (p:=fun n=>C8 k (Av n)) (w:=hl);have ha3:=(List.pairwise_append.1 ha2).2.1;rw[List.drop_eq_getElem_cons hl]at hc ha3;simp only[Cg]at hc ha3;obtain⟨v,r,hf⟩:=Gd (Mg (by omega) (hk _ (List.getElem_mem hl)));rw[hf]at hc ha3;rw[List.cons_append]at hc ha3;rcases List.mem_cons.1 hc with rfl|hc
       . exact hp
       . exact De hp ((List.pairwise_cons.1 ha3).1 c hc)
     . rw[List.drop_eq_nil_of_le (by omega)]at hc;simp[Cg]at hc
def okR (lo h:Nat) (r:Nd×Option Nd):Prop:=Ga lo h r.1/\ ∀m,r.2=some m->Ga 4 h r.1/\Ga 4 h m
theorem Ac4 {l:List Bj} {lo:Nat} (h4:lo<=4) (h0:lo<=l.length) (h9:l.length<=9):flR (F6 l)=l/\okR lo 0 (F6 l):=by
 unfold F6;by_cases h:l.length<=8
 . rw[if_pos h];exact⟨by simp[flR,Cw,Cg],⟨h0,h⟩,fun m e=>by cases e⟩
 . rw[if_neg h];have ha:Ga 4 0 (.leaf (l.take 4)):=⟨by rw[List.length_take];omega,by rw[List.length_take];omega⟩;refine⟨by simp[flR,Cw,Cg],Abh h4 ha,fun m e=>⟨ha, ?_⟩⟩
   cases e
   exact⟨by rw[List.length_drop];omega,by rw[List.length_drop];omega⟩
theorem Ac5 {l:List Nd} {h lo:Nat} (h4:lo<=4) (h0:lo<=l.length) (h2:2<=l.length) (h9:l.length<=9) (hk: ∀x ∈ l,Ga 4 h x):flR (F7 l)=Cg l/\okR lo (h+1) (F7 l):=by
 unfold F7;by_cases h8:l.length<=8
 . rw[if_pos h8,Jy h2];exact⟨by simp[flR,Cw,Cg],⟨h0,h8,hk⟩,fun m e=>by cases e⟩
 . rw[if_neg h8,Jy (by rw[List.length_take];omega),Jy (by rw[List.length_drop];omega)];have ha:Ga 4 (h+1) (.inner (l.take 4)):=⟨by rw[List.length_take];omega,by rw[List.length_take];omega,fun x hx=>hk x (List.mem_of_mem_take hx)⟩;refine⟨?_,Abh h4 ha,fun m e=>⟨ha, ?_⟩⟩
   . simp only[flR,Option.toList,Nc,Cw];rw[<-Cn,List.take_append_drop]
   . cases e
     exact⟨by rw[List.length_drop];omega,by rw[List.length_drop];omega,fun x hx=>hk x (List.mem_of_mem_drop hx)⟩
theorem Abl {k:ByteArray} {v:Val}: ∀(l:List Bj),l.length<=(Cm k v l).length
 | []=>by simp
 |(a,x)::r=>by
  have ih:=Abl (k:=k) (v:=v) r;simp only[Cm];by_cases h1:C8 a k=true
  . rw[if_pos h1];simp;omega
  . rw[if_neg h1];by_cases h2:a=k
    . rw[if_pos h2];simp
    . rw[if_neg h2];simp
theorem N5: ∀(h:Nat) {n:Nd} {lo:Nat} {k:ByteArray} {v:Val},lo<=4->0<lo\/h=0->(0<h->2<=lo)->Ga lo h n->B8 (Cw n)->flR (Cp h n k v)=Cm k v (Cw n)/\okR lo h (Cp h n k v)
 |0,.leaf es,lo,k,v,h4,_,_,hn,_=>by
  have hl:=Je (k:=k) (v:=v) es;have hg:=Abl (k:=k) (v:=v) es;have h1:=hn.1;have h2:=hn.2;simp only[Cp,Cw];exact Ac4 h4 (by omega) (by omega)
 |0,.inner ks,_,_,_,_,_,_,hn,_=>absurd hn (by simp[Ga])
 |h+1,.leaf es,_,_,_,_,_,_,hn,_=>absurd hn (by simp[Ga])
 |h+1,.inner ks,lo,k,v,h4,h0,hlo2,hn,ha=>by
  simp only[Ga]at hn;obtain⟨h2,h8,hk⟩:=hn;have hlo:=hlo2 (by omega);have hne:ks≠ []:=by intro e;rw[e]at h2;simp at h2;omega
  obtain⟨A,x,C,e,hA,hlow,hhi⟩:=N4 (k:=k) hne hk ha;have hx:Ga 4 h x:=hk x (by rw[e];simp);have hax:B8 (Cw x):=by
   have ha':B8 (Cg ks):=ha;rw[e,Cn]at ha';have:=(List.pairwise_append.1 ha').2.1;simp only[Cg]at this;exact(List.pairwise_append.1 this).1
  obtain⟨i1,i2,i3⟩:=N5 h (k:=k) (v:=v) (Nat.le_refl 4) (.inl (by omega)) (fun _=>by omega) hx hax;have eg:ks.getD (Ay ks k) (.leaf [])=x:=by rw[<-hA,e];simp
  have et:ks.take (Ay ks k)=A:=by rw[<-hA,e];simp
  have ed:ks.drop (Ay ks k+1)=C:=by rw[<-hA,e];simp
  have hlen:ks.length=A.length+1+C.length:=by rw[e];simp;omega
  have hR:(Cp h x k v).2.toList.length<=1:=by cases (Cp h x k v).2<;>simp
  simp only[Cp];rw[eg,et,ed];obtain⟨s1,s2⟩:=Ac5 (l:=A++(Cp h x k v).1::((Cp h x k v).2.toList++C)) (h:=h) h4 (by simp;omega) (by simp;omega) (by simp;omega) (fun y hy=>by
   rcases List.mem_append.1 hy with hy|hy
   . exact hk y (by rw[e];simp[hy])
   rcases List.mem_cons.1 hy with rfl|hy
   . exact i2
   rcases List.mem_append.1 hy with hy|hy
   . exact(i3 y (by simpa using hy)).2
   . exact hk y (by rw[e];simp[hy]))
  refine⟨?_,s2⟩;rw[s1,Cn];simp only[Cg,Cw,Cn];have i1':Cw (Cp h x k v).1++Cg (Cp h x k v).2.toList=Cm k v (Cw x):=i1;rw[<-List.append_assoc (Cw (Cp h x k v).1),i1',e,Cn,Np hlow];simp only[Cg];rw[Ow hhi]
def Ke:Option (Nat×Nd)->ByteArray->Val->Option (Nat×Nd)
 |none,k,v=>some (0,.leaf [(k,v)])
 |some (h,n),k,v=>match Cp h n k v with
  |(a,none)=>some (h,a)
  |(a,some b)=>some (h+1,Gy [a,b])
def Db:Option (Nat×Nd)->List Bj
 |none=> []
 |some (_,n)=>Cw n
def I4 (h:Nat):Nat:=if h=0 then 1 else 2
def Sc:Option (Nat×Nd)->Prop
 |none=>True
 |some (h,n)=>Ga (I4 h) h n/\B8 (Cw n)
theorem Hz (h:Nat):I4 h<=2/\0<I4 h/\(0<h->2<=I4 h):=by
 unfold I4;by_cases e:h=0
 . rw[if_pos e];omega
 . rw[if_neg e];omega
theorem Agf {t:Option (Nat×Nd)} (k:ByteArray) (v:Val) (ht:Sc t):Db (Ke t k v)=Cm k v (Db t)/\Sc (Ke t k v):=by
 match t,ht with
 |none,_=>exact⟨rfl,⟨by simp[I4],by simp⟩,by simp[Cw,B8]⟩
 |some (h,n),⟨hn,ha⟩=>
  obtain⟨l1,l2,l3⟩:=Hz h;obtain⟨i1,i2,i3⟩:=N5 h (k:=k) (v:=v) (by omega) (.inl l2) l3 hn ha;have hp:=Ks (k:=k) (v:=v) ha
  match hr:Cp h n k v with
  |(a,none)=>
   have hP:Ke (some (h,n)) k v=some (h,a):=by simp only[Ke,hr]
   rw[hP];rw[hr]at i1 i2;have e:Cw a=Cm k v (Cw n):=by simpa[flR,Cg]using i1
   exact⟨e,i2,by rw[e];exact hp⟩
  |(a,some b)=>
   have hP:Ke (some (h,n)) k v=some (h+1,.inner [a,b]):=by simp only[Ke,hr];rfl
   rw[hP];rw[hr]at i1 i2 i3;have e:Cw (.inner [a,b])=Cm k v (Cw n):=by simpa[flR,Cg,Cw]using i1
   obtain⟨o1,o2⟩:=i3 b rfl;refine⟨e,⟨by unfold I4;simp,by simp,fun x hx=> ?_⟩, ?_⟩
   . rcases List.mem_cons.1 hx with rfl|hx
     . exact o1
     . obtain rfl:=List.mem_singleton.1 hx;exact o2
   . show B8 (Cw (.inner [a,b]));rw[e];exact hp
end Go.Proofs.YtkmcjfkokoidcaaGreatDoor
namespace Go.Proofs.YtkmcjfkokoidcaaGreatDoor
open Go.RowKit
def Aa0 {α β:Type} (P:Program) (gf:Nat) (lb:Array Value) (encs:α->β->Array Value) (E:α->β->World->Prop) (xs:List α) (N:World->Prop):Prop:=
 ∀(n l:Nat) (J:List α->World->Prop) (W:World),(∀s A B,J s A->Below A.heap.size A B->J s B)->(∀s A,J s A->N A)->
  (∀pre x rest q A,xs=pre++x::rest->J pre A->E x q A->YieldAt Fence.wide n P l (encs x q) A fun e B=>e=.returned (.bool true)/\J (pre++ [x]) B)->
  J [] W->CallsIn Fence.wide (n+1) P gf (#[.func (.yield l) #[] #[]]++lb) W fun e B=>(∃v,e=.returned v)/\J xs B
theorem S3 {α β:Type} {P:Program} {g:Operand} {ps:Array Tmp} {assign body:Code} {Q:Exit->Act->World->Prop} {a:Act} {w:World} {n:Nat}
 {gf:Nat} {lb:Array Value} (hg:a.eval g=.func (.func gf) #[] lb) (eg: ∀args w,(callFunc gf args).run P w=.ok (.enter gf args) w)
 {encs:α->β->Array Value} {E:α->β->World->Prop} {xs:List α} {N:World->Prop} (hit:Aa0 P gf lb encs E xs N) (hps: ∀x q,(encs x q).size=ps.size)
 (hEp: ∀x q A k o o',E x q A->A.heap[k]? =some o->o.isCells=false->E x q (A.putObj k o'))
 (I:List α->World->Prop) (hIn: ∀s A B,I s A->Below A.heap.size A B->I s B)
 (hIp: ∀s A k o o',I s A->A.heap[k]? =some o->o.isCells=false->(k=w.heap.size\/k=w.heap.size+1)->I s (A.putObj k o'))
 (hIb: ∀s A,I s A->N A) (h0:I [] w) (a₁:α->β->Act)
 (hassign: ∀(l:Nat) (x:α) (q:β) (W:World) (K:Act->World->Prop),K (a₁ x q) W->
   assign.wpIn (Fence.wide.inRound l) n P (Exit.then K (fun _ _ _=>False)) {tmps:=(ps.zip (encs x q)).foldl (fun t (p,v)=>t.setIfInBounds p v) a.tmps,defers:= []} W)
 (hbody: ∀(l:Nat) (pre:List α) (x:α) (rest:List α) (q:β) (W:World),xs=pre++x::rest->I pre W->E x q W->(∃ds,W.heap[w.heap.size]? =some (.deferred ds))->(∃r,W.heap[w.heap.size+1]? =some (.loop r))->
   body.wpIn (Fence.wide.inRound l) n P (Zl (I (pre++ [x])) w.heap.size W) (a₁ x q) W)
 (hdone: ∀(W:World),I xs W->W.heap[w.heap.size]? =some (.deferred (some []))->Q .normal {a with defers:={target:=.collected w.heap.size,args:= #[]}::a.defers} W):
 (Code.rangeFunc g ps assign body).wpIn Fence.wide (n+1+1) P Q a w:=by
 refine wpIn_rangeFunc ?_;intro fn hfn;have hro:Fence.wide.round=none:=rfl;rw[hro];obtain⟨rec,hrec⟩: ∃rec:LoopState->Option Code->Loop,rec=fun st pe=>{state:=st,pending:=pe,fn,tmps:=a.tmps,params:=ps,assign,body,defers:=w.heap.size}:=⟨_,rfl⟩;obtain⟨W1,hW1⟩: ∃W1,(w.alloc (.deferred (some []))).alloc (.loop (rec .ready none))=W1:=⟨_,rfl⟩;have hL1:W1.heap[w.heap.size+1]? =some (.loop (rec .ready none)):=by
  rw[<-hW1];have:=World.alloc_heap_new (w.alloc (.deferred (some []))) (.loop (rec .ready none));rwa [World.size_alloc]at this
 have hK1:W1.heap[w.heap.size]? =some (.deferred (some [])):=by
  rw[<-hW1];exact(Below.heap_alloc _ _ _ (by simp)).trans (World.alloc_heap_new w _)
 have hI1:I [] W1:=by
  rw[<-hW1];exact hIn _ _ _ h0 (((Below.refl _ w).alloc (Nat.le_refl _) _).alloc (by simp) _)
 refine⟨w.heap.size+1, [{target:=.collected w.heap.size,args:= #[]}],W1,{target:=.fn (.func gf) lb,args:= #[.func (.yield (w.heap.size+1)) #[] #[]]},W1,gf,
  #[.func (.yield (w.heap.size+1)) #[] #[]]++lb,W1, ?_, ?_, ?_, ?_,fun h=>by simp[Fence.wide]at h, ?_⟩
 . rw[<-hW1,hrec];exact run_enterLoop_outer _ _ _ _ _
 . simp only[resolve,hg];simp[go_sem]
 . intro f' _;trivial
 . simp[invoke,go_sem,eg]
 . refine(hit n (w.heap.size+1)
    (fun pre W=>I pre W/\W.heap[w.heap.size+1]? =some (.loop (rec .ready none))/\W.heap[w.heap.size]? =some (.deferred (some [])))
    W1 (fun s A B hs hb=>⟨hIn s A B hs.1 hb,(hb.block _ (Array.getElem?_eq_some_iff.1 hs.2.1).1).trans hs.2.1,(hb.block _ (Array.getElem?_eq_some_iff.1 hs.2.2).1).trans hs.2.2⟩)
    (fun s A hs=>hIb s A hs.1) ?_ ⟨hI1,hL1,hK1⟩).mono ?_
   ·
    rintro pre x rest q W hx ⟨hi,hl,hk⟩ hE;have hlt:w.heap.size+1<W.heap.size:=(Array.getElem?_eq_some_iff.1 hl).1;have hy:=run_yield (P:=P) (args:=encs x q) hl (by rw[hrec];exact hps x q);rw[hrec]at hy;refine⟨fn,_,assign,body,hy,roundIn_of_wpIn trivial (hassign _ x q W _ ⟨_,run_beginRound hl (by rw[hrec]), ?_⟩)⟩;have hl2:(W.putObj (w.heap.size+1) (.loop {rec .ready none with state:=.busy})).heap[w.heap.size+1]? =some (.loop {rec .ready none with state:=.busy}):=World.putObj_heap_same hlt;have hk2:(W.putObj (w.heap.size+1) (.loop {rec .ready none with state:=.busy})).heap[w.heap.size]? =some (.deferred (some [])):=(World.putObj_heap_other (by omega)).trans hk;refine wpIn_mono (hbody _ pre x rest q _ hx (hIp _ _ _ _ _ hi hl rfl (.inr rfl)) (hEp _ _ _ _ _ _ hE hl rfl) ⟨_,hk2⟩ ⟨_,hl2⟩) ?_;rintro e a3 W3 hp
    cases e with
    |normal=>
     obtain⟨h1,h2,hi3⟩:=hp;have hl3:=h2.trans hl2;have hk3:=h1.trans hk2;have hr:=run_endRound (P:=P) none hl3;rw[hrec]at hr;refine⟨_,_,hr,rfl,hIp _ _ _ _ _ hi3 hl3 rfl (.inr rfl), ?_, ?_⟩
     . rw[World.putObj_heap_same (Array.getElem?_eq_some_iff.1 hl3).1,hrec];rfl
     . exact(World.putObj_heap_other (by omega)).trans hk3
    |ret=>exact hp.elim
    |exit id=>exact hp.elim
    |goto t=>exact hp.elim
    |panic ch=>exact hp.elim
    |outgrown=>exact hp.elim
   ·
    rintro e W2 ⟨⟨v,rfl⟩,hi,hl,hk⟩;exact⟨none,_,by have:=run_endLoop (P:=P) hl (by rw[hrec];simp);rw[hrec]at this;exact this,hdone _ (hIp _ _ _ _ _ hi hl rfl (.inr rfl)) ((World.putObj_heap_other (by omega)).trans hk)⟩
theorem Oq {w:World} {B m:Nat} {v:Value} {ns:List Value} (h:w.ownsRow B 37 6 v m ns):
 ∃la lc,v=.slice la m lc/\(m=0\/ ∃g,la=some ⟨g,0,none⟩/\B<=g/\g<w.heap.size/\ ∀j u,ns[j]? =some u->w.cell? ⟨g,0+j,none⟩=some u):=by
 rcases h.2 with⟨rfl,hz⟩|⟨g,cap,cur,rfl,hbg,hg,_,_,_,_⟩
 . subst hz;exact⟨none,0,rfl,.inl rfl⟩
 . refine⟨_,cap,rfl,.inr ⟨g,rfl,hbg,(Array.getElem?_eq_some_iff.1 hg).1,fun j u hu=> ?_⟩⟩;have:=h.cells (g:=g) rfl j u hu;rw[Go.WideShapes.add_plain]at this;exact this
def Jp (w:World) (v:Val) (e:Ending) (w':World):Prop:=
 (∃la lc,e=.returned (.slice la (within v).length lc)/\(within v= []\/ ∃g off,la=some ⟨g,off,none⟩/\g<w'.heap.size/\Ao w' w'.heap.size (within v) g off))/\Below w.heap.size w w'
theorem Yn (b:Bool) (n:Int) (t:ByteArray) (l:List Val) (o:List (ByteArray×Val)) (la oa:Option Addr) (oc lc:Nat) (w:World) (hl:l= []\/ ∃g off,la=some ⟨g,off,none⟩/\g<w.heap.size/\Ao w w.heap.size l g off)
 (hb:Bg l<=100000000):
 Calls Tryz.prog 183 #[.agg #[.int .i64 5,.bool b,.int .i64 n,.string t,.slice la l.length lc,.slice oa o.length oc]] w (Jp w (.mk 5 b n t l o)):=by
 have hln:=Dr l;have hw:within (.mk 5 b n t l o)=l:=by simp[within]
 by_cases h0:l= []
 . subst h0;clear hl;go_enter Tryz.func183,Tryz.ntmps183;have Hw:=qz hw;clear hw
   cases la
   . go_wp2;go_ret;exact⟨⟨none,0,by rw[Hw.out];rfl,.inl Hw.out⟩,(Below.refl _ _).alloc (Nat.le_refl _) _⟩
   . go_wp2;go_ret;exact⟨⟨none,0,by rw[Hw.out];rfl,.inl Hw.out⟩,(Below.refl _ _).alloc (Nat.le_refl _) _⟩
 . obtain⟨g,off,rfl,hg,hL⟩:=hl.resolve_left h0;obtain⟨i0,hi,hz0,hz1,hz2⟩:=info_parts Nh;obtain⟨ns,hrow,hcells⟩:=Ao.row hL;obtain⟨hnl,hno⟩:=hrow.len;obtain⟨HI,HZ0,HZ1,HZ2,Hrow,Hcells,Hw,HN,HO⟩:=hid9 hi hz0 hz1 hz2 hrow hcells hw hnl hno;clear hi hz0 hz1 hz2 hrow hcells hw hnl hno hl hL;obtain⟨w1,hw1⟩: ∃w1,w.alloc (.cells #[.int .i64 5,.bool b,.int .i64 n,.string t,.slice (some ⟨g,off,none⟩) l.length lc,.slice oa o.length oc] 37)=w1:=⟨_,rfl⟩;have HB1:Hid (Below w.heap.size w w1):=hw1▸(Below.refl _ _).alloc (Nat.le_refl _) _;have HX1:=qz (show w1.heap[w.heap.size]? =some (.cells #[.int .i64 5,.bool b,.int .i64 n,.string t,.slice (some ⟨g,off,none⟩) l.length lc,.slice oa o.length oc] 37 (0,0))from by rw[<-hw1];exact heap_alloc_new _ _);have HS1:=qz (show w1.heap.size=w.heap.size+1 from by rw[<-hw1];simp);have Hown:Hid (w1.ownsRow (w.heap.size+1) 37 6 (.slice none 0 0) 0 []):=World.ownsRow_nil _ _ _ _;subst hw1;go_enter Tryz.func183,Tryz.ntmps183;go_wp2_with (at_builtin;refine wpList_append_own _ rfl (.tmp 8) (.tmp 10) 34 rfl (w.heap.size+1) 37 i0 (.agg #[.int .i64 0,.bool false,.int .i64 0,.string ⟨#[]⟩,.slice none 0 0,.slice none 0 0]) 6 88 Tryz.underlying34 HI.out HZ0.out HZ1.out HZ2.out rfl (by decide) (.slice none 0 0) 0 [] rfl Hown.out ⟨g,off,none⟩ l.length lc ns rfl HN.out ?c1 ?c2 ?c3 ?c4 ?c5 ?_)
   case c1=>
    intro j u hj;rw[Go.WideShapes.add_plain];exact(HB1.out.cell (p:=⟨g,off+j,none⟩) hg).trans (Hcells.out j u hj)
   case c2=>exact HO.out
   case c3=>unfold maxLen;omega
   case c4=>omega
   case c5=>simp
   intro v' w2 hown' hgrow _;obtain⟨la',lc',rfl,hsl⟩:=Oq hown';have HbA:=qz ((HB1.out).grown hgrow (by rw[HS1.out];omega) (fun k hk=>by simp[Value.ownBlock]at hk));have hbox2:w2.heap[w.heap.size]? =some (.cells #[.int .i64 5,.bool b,.int .i64 n,.string t,.slice (some ⟨g,off,none⟩) l.length lc,.slice oa o.length oc] 37 (0,0)):=(hgrow.block _ (by rw[HS1.out];omega) (by simp[Value.ownBlock])).trans HX1.out;have d0:w2.cell? ⟨w.heap.size,0,none⟩=some (.int .i64 5):=by rw[Lib.cell_of_heap hbox2];rfl
   have Hsl:=qz hsl;clear hown' hgrow hsl hbox2;go_wp2;go_ret;refine⟨⟨la',lc',by rw[Hw.out];rfl, ?_⟩,HbA.out⟩;rw[Hw.out];refine .inr ?_;rcases Hsl.out with h|⟨g',rfl,_,hg',hc'⟩
   . exact absurd (List.length_eq_zero_iff.1 h) h0
   . exact⟨g',0,rfl,hg',Hrow.out.holds (fun v cs h=>Ac.more HbA.out.size _ _ (h.below HbA.out)) hc'⟩
theorem Aas (b:Bool) (n:Int) (t:ByteArray) (l:List Val) (o:List (ByteArray×Val)) (la oa:Option Addr) (oc lc:Nat) (w:World) (hl:o= []\/ ∃g off,oa=some ⟨g,off,none⟩/\g<w.heap.size/\Ak w w.heap.size o g off)
 (hb:Ae o<=100000000):
 Calls Tryz.prog 183 #[.agg #[.int .i64 6,.bool b,.int .i64 n,.string t,.slice la l.length lc,.slice oa o.length oc]] w (Jp w (.mk 6 b n t l o)):=by
 have hln:=Ba o;have Hw:=qz (show within (.mk 6 b n t l o)=o.map (·.2)from by simp[within]);obtain⟨i0,hi,hz0,hz1,hz2⟩:=info_parts Nh;obtain⟨HI,HZ0,HZ1,HZ2⟩:=hid4 hi hz0 hz1 hz2;clear hi hz0 hz1 hz2;obtain⟨w1,hw1⟩: ∃w1,w.alloc (.cells #[.int .i64 6,.bool b,.int .i64 n,.string t,.slice la l.length lc,.slice oa o.length oc] 37)=w1:=⟨_,rfl⟩;have HB1:Hid (Below w.heap.size w w1):=hw1▸(Below.refl _ _).alloc (Nat.le_refl _) _;have HX1:=qz (show w1.heap[w.heap.size]? =some (.cells #[.int .i64 6,.bool b,.int .i64 n,.string t,.slice la l.length lc,.slice oa o.length oc] 37 (0,0))from by rw[<-hw1];exact heap_alloc_new _ _);have Hown:Hid (w1.ownsRow (w.heap.size+1) 37 6 (.slice none 0 0) 0 []):=World.ownsRow_nil _ _ _ _;have HR0:Hid (Ik w w.heap.size ((o.take 0).map (·.2)) []):=rfl;subst hw1;go_enter Tryz.func183,Tryz.ntmps183;go_wp2_with (fail);go_loopw [3,4] (fun v1 i wr=> ∃(k:Nat) (ns:List Value),i=.int .i64 k/\k<=o.length/\Hid (wr.ownsRow (w.heap.size+1) 37 6 v1 k ns)/\Hid (Ik w w.heap.size ((o.take k).map (·.2)) ns)/\Hid (Below w.heap.size w wr)/\
  Hid (wr.heap[w.heap.size]? =some (.cells #[.int .i64 6,.bool b,.int .i64 n,.string t,.slice la l.length lc,.slice oa o.length oc] 37 (0,0)))) (fun _ i _=>o.length - (intOf i).toNat)
 case atStart=>exact⟨0, [],rfl,Nat.zero_le _,Hown,HR0,HB1,HX1⟩
 case round=>
  obtain⟨k,ns,rfl,hk,hown,hrow,hbw,hbx⟩:=hrel;clear Hown HR0 HB1 HX1;have b5:wr.cell? ⟨w.heap.size,5,none⟩=some (.slice oa o.length oc):=by rw[Lib.cell_of_heap hbx.out];rfl
  have hz:w.heap.size<wr.heap.size:=(Array.getElem?_eq_some_iff.1 hbx.out).1;by_cases hlt:k<o.length
  . obtain⟨g,off,rfl,hg,hL⟩: ∃g off,oa=some ⟨g,off,none⟩/\g<w.heap.size/\Ak w w.heap.size o g off:=by
     rcases hl with rfl|h
     . simp at hlt
     . exact h
    obtain⟨⟨key,x⟩,hx⟩: ∃v,o[k]? =some v:=⟨_,List.getElem?_eq_getElem hlt⟩;have htk:(o.take (k+1)).map (·.2)=(o.take k).map (·.2)++ [x]:=by rw[List.take_add_one,hx];simp
    obtain⟨k',b',n',t',l',o'⟩:=x;obtain⟨la',lc',oa',oc',hvs,_,e1,e2,e3,e4,e5,e6⟩:=hL.seven hx;have cc:=fun j (u:Value) (h:w.cell? ⟨g,j,none⟩=some u)=>(hbw.out.cell (p:=⟨g,j,none⟩) hg).trans h;have c1:=cc _ _ e1;have c2:=cc _ _ e2;have c3:=cc _ _ e3;have c4:=cc _ _ e4;have c5:=cc _ _ e5;have c6:=cc _ _ e6;have hrow':=hrow.out.snoc hvs;rw[<-htk]at hrow';have Hrow:=qz hrow';have hno:=qz hvs.len.2;clear hrow' hrow htk hx hL hg e1 e2 e3 e4 e5 e6 cc hvs;go_wp2_with (at_builtin;refine wpList_append_own _ rfl (.tmp 22) (.tmp 29) 34 rfl (w.heap.size+1) 37 i0 (.agg #[.int .i64 0,.bool false,.int .i64 0,.string ⟨#[]⟩,.slice none 0 0,.slice none 0 0]) 6 88 Tryz.underlying34 HI.out HZ0.out HZ1.out HZ2.out rfl (by decide) u3 k ns rfl (hown.out.alloc _) ⟨wr.heap.size,0,none⟩ 1 1 (Ds k' b' n' t' la' l'.length lc' oa' o'.length oc') rfl rfl ?c1 ?c2 ?c3 ?c4 ?c5 ?_)
    case c1=>
     intro j u hj;rw[Go.WideShapes.add_plain];rw[Lib.cell_of_heap (heap_alloc_new wr (.cells #[.int .i64 k',.bool b',.int .i64 n',.string t',.slice la' l'.length lc',.slice oa' o'.length oc'] 37)),Nat.zero_add];simpa using hj
    case c2=>exact hno.out
    case c3=>unfold maxLen;omega
    case c4=>omega
    case c5=>simp;omega
    intro v' w2 hown' hgrow _;have ho':=qz hown';have hbA:=qz ((hbw.out.alloc (by omega) (.cells #[.int .i64 k',.bool b',.int .i64 n',.string t',.slice la' l'.length lc',.slice oa' o'.length oc'] 37)).grown hgrow (by simp;omega) (fun q hq=>by have:=(hown.out.lt q hq).1;omega));have hbx2:Hid (w2.heap[w.heap.size]? =some (.cells #[.int .i64 6,.bool b,.int .i64 n,.string t,.slice la l.length lc,.slice (some ⟨g,off,none⟩) o.length oc] 37 (0,0))):=by
     show _=_;rw[hgrow.block _ (by simp;omega) (fun e=>by have:=(hown.out.lt _ e.symm).1;omega),Lib.alloc_old wr _ _ hz];exact hbx.out
    clear hown' hgrow hown hbw hbx b5 c1 c2 c3 c4 c5 c6 hno;go_wp2;go_roundw
    case rel=>exact⟨k+1,_,by go_num,by omega,ho',Hrow,hbA,hbx2⟩
    case measure=>simp only[intOf];omega
  . obtain rfl:k=o.length:=by omega
    have hr':=hrow.out;rw[List.take_length]at hr';obtain⟨la',lc',rfl,hsl⟩:=Oq hown.out;obtain⟨Hsl,HR⟩:=hid2 hsl hr';have Hlm:Hid (o.length=(o.map (·.2)).length):=by show _=_;simp
    clear hr' hrow hsl hown hl;go_wp2;go_ret;refine⟨⟨la',lc',by rw[Hw.out,<-Hlm.out];rfl, ?_⟩,hbw.out⟩;rw[Hw.out];rcases Hsl.out with h|⟨g',rfl,_,hg',hc'⟩
    . exact .inl (by rw[List.length_eq_zero_iff.1 h];rfl)
    . exact .inr ⟨g',0,rfl,hg',HR.out.holds (fun v cs h=>Ac.more hbw.out.size _ _ (h.below hbw.out)) hc'⟩
mutual
def Dv:Val->Nat
 | .mk k _ _ _ l o=>1+(if k=5 then Ec l else if k=6 then Gn o else 0)
def Ec:List Val->Nat
 | []=>0
 |v::r=>max (Dv v) (Ec r)
def Gn:List (ByteArray×Val)->Nat
 | []=>0
 |p::r=>max (Wv p) (Gn r)
def Wv:ByteArray×Val->Nat
 |(_,v)=>Dv v
end
theorem M8: ∀(l:List Val),(∀v ∈ l,Dv v<=v.bulk)->Ec l<=Bg l
 | [],_=>by simp[Ec]
 |v::r,h=>by
  have h1:=h v (by simp);have h2:=M8 r (fun x hx=>h x (by simp[hx]));simp only[Ec,Bg];omega
theorem Q8: ∀(l:List (ByteArray×Val)),(∀m ∈ l,Dv m.2<=m.2.bulk)->Gn l<=Ae l
 | [],_=>by simp[Gn]
 |(k,v)::r,h=>by
  have h1:=h (k,v) (by simp);have h2:=Q8 r (fun x hx=>h x (by simp[hx]));simp only[Gn,Wv,Ae,Gm];simp only at h1;omega
theorem Ja: ∀v:Val,Dv v<=v.bulk:=by
 refine Val.ind ?_;intro k b n t l o hl ho;have h1:=M8 l hl;have h2:=Q8 o ho;simp only[Dv,Val.bulk]
 split
 . omega
 split<;>omega
def Adk (v:Val):Prop:= ∀(cs:List Value) (w:World),Ac w w.heap.size v cs->v.bulk<=100000000->
    Calls Tryz.prog 135 #[.agg cs.toArray] w fun e w'=>e=.returned (.int .i64 (Dv v))/\Below w.heap.size w w'
theorem Abz (b:Bool) (n:Int) (t:ByteArray) (l:List Val) (on:Nat) (IH: ∀v ∈ l,Adk v) (la oa:Option Addr) (oc lc:Nat) (w:World) (hl:l= []\/ ∃g off,la=some ⟨g,off,none⟩/\g<w.heap.size/\Ao w w.heap.size l g off)
 (hb:Bg l<=100000000):
 Calls Tryz.prog 135 #[.agg #[.int .i64 5,.bool b,.int .i64 n,.string t,.slice la l.length lc,.slice oa on oc]] w fun e w'=>e=.returned (.int .i64 (1+(Ec l:Int)))/\Below w.heap.size w w':=by
 have hln:=Dr l;have hdl:=M8 l (fun v _=>Ja v);obtain⟨M,hM⟩: ∃M,Ec l=M:=⟨_,rfl⟩;rw[hM]at hdl ⊢;have H0:Hid (max 0 (Ec (l.drop 0))=M):=by show _=_;rw[List.drop_zero,hM];simp
 have HI:=qz IH;clear IH hM;go_enter Tryz.func135,Tryz.ntmps135;go_wp2_with (fail);have HB1:Hid (Below w.heap.size w (w.alloc (.cells #[.int .i64 5,.bool b,.int .i64 n,.string t,.slice la l.length lc,.slice oa on oc] 37))):=(Below.refl _ _).alloc (Nat.le_refl _) _;go_loopw [3,15] (fun m i wr=> ∃D k:Nat,m=.int .i64 D/\i=.int .i64 k/\k<=l.length/\Hid (max D (Ec (l.drop k))=M)/\D<=M/\Hid (Below w.heap.size w wr)) (fun _ i _=>l.length - (intOf i).toNat)
 case atStart=>exact⟨0,0,rfl,rfl,Nat.zero_le _,H0,Nat.zero_le _,HB1⟩
 case round=>
  obtain⟨D,k,rfl,rfl,hk,hD,hDM,hbw⟩:=hrel;clear H0 HB1;by_cases hlt:k<l.length
  . obtain⟨g,off,rfl,hg,hL⟩: ∃g off,la=some ⟨g,off,none⟩/\g<w.heap.size/\Ao w w.heap.size l g off:=by
     rcases hl with rfl|h
     . simp at hlt
     . exact h
    obtain⟨x,hx⟩: ∃v,l[k]? =some v:=⟨_,List.getElem?_eq_getElem hlt⟩;have hmem:x ∈ l:=List.mem_of_getElem? hx;have hbv:=Ew hmem;have hdv:=Ja x;have hdrop:l.drop k=x::l.drop (k+1):=C3 hx;have hD':=hD.out;rw[hdrop]at hD';simp only[Ec]at hD';have IHx:=HI.out x hmem;have hz:=hbw.out.size;obtain⟨m,hm⟩: ∃m,Dv x=m:=⟨_,rfl⟩;obtain⟨k',b',n',t',l',o'⟩:=x;obtain⟨la',lc',oa',oc',hvs,c0,c1,c2,c3,c4,c5⟩:=(hL.below hg hbw.out).six hx;have CT:=IHx _ (wr.alloc (.cells #[.int .i64 k',.bool b',.int .i64 n',.string t',.slice la' l'.length lc',.slice oa' o'.length oc'] 37)) (Ac.more (by simp;omega) _ _ (hvs.below ((Below.refl _ _).alloc hz _))) (by omega);rw[hm]at CT hD' hdv;have hCT:=qz CT;have Hn:Hid (max (max D m) (Ec (l.drop (k+1)))=M):=by show _=_;omega
    have hmM:max D m<=M:=by omega
    have hbA:Hid (Below w.heap.size w (wr.alloc (.cells #[.int .i64 k',.bool b',.int .i64 n',.string t',.slice la' l'.length lc',.slice oa' o'.length oc'] 37))):=hbw.out.alloc hz _;clear CT hD hD' hdrop IHx hm hvs hx hmem hL hg hdv hbv;by_cases hgt:D<m
    . have e1:max D m=m:=by omega
      rw[e1]at Hn hmM;clear e1;go_wp2_with (fail);(with_reducible refine hCT.out.mono ?_);rintro e w4 ⟨rfl,hb4⟩;have hbw4:=qz (hbA.out.trans (hb4.mono hbA.out.size));clear hb4 hbw hbA hCT;go_wp2;go_roundw
      case rel=>exact⟨m,k+1,by congr 1;omega,by go_num,by omega,Hn,hmM,hbw4⟩
      case measure=>simp only[intOf];omega
    . have e1:max D m=D:=by omega
      rw[e1]at Hn hmM;clear e1;go_wp2_with (fail);(with_reducible refine hCT.out.mono ?_);rintro e w4 ⟨rfl,hb4⟩;have hbw4:=qz (hbA.out.trans (hb4.mono hbA.out.size));clear hb4 hbw hbA hCT;go_wp2;go_roundw
      case rel=>exact⟨D,k+1,by congr 1;omega,by go_num,by omega,Hn,hmM,hbw4⟩
      case measure=>simp only[intOf];omega
  . obtain rfl:k=l.length:=by omega
    have hD':=hD.out;rw[List.drop_length]at hD';simp only[Ec]at hD';obtain rfl:D=M:=by omega
    clear hD hD' hl;go_wp2;go_ret;exact⟨rfl,hbw.out⟩
theorem Ad4 (b:Bool) (n:Int) (t:ByteArray) (l:List (ByteArray×Val)) (ln:Nat) (IH: ∀m ∈ l,Adk m.2) (la oa:Option Addr) (oc lc:Nat) (w:World) (hl:l= []\/ ∃g off,oa=some ⟨g,off,none⟩/\g<w.heap.size/\Ak w w.heap.size l g off)
 (hb:Ae l<=100000000):
 Calls Tryz.prog 135 #[.agg #[.int .i64 6,.bool b,.int .i64 n,.string t,.slice la ln lc,.slice oa l.length oc]] w fun e w'=>e=.returned (.int .i64 (1+(Gn l:Int)))/\Below w.heap.size w w':=by
 have hln:=Ba l;have hdl:=Q8 l (fun m _=>Ja m.2);obtain⟨M,hM⟩: ∃M,Gn l=M:=⟨_,rfl⟩;rw[hM]at hdl ⊢;have H0:Hid (max 0 (Gn (l.drop 0))=M):=by show _=_;rw[List.drop_zero,hM];simp
 have HI:=qz IH;clear IH hM;go_enter Tryz.func135,Tryz.ntmps135;go_wp2_with (fail);have HB1:Hid (Below w.heap.size w (w.alloc (.cells #[.int .i64 6,.bool b,.int .i64 n,.string t,.slice la ln lc,.slice oa l.length oc] 37))):=(Below.refl _ _).alloc (Nat.le_refl _) _;go_loopw [3,29] (fun m i wr=> ∃D k:Nat,m=.int .i64 D/\i=.int .i64 k/\k<=l.length/\Hid (max D (Gn (l.drop k))=M)/\D<=M/\Hid (Below w.heap.size w wr)) (fun _ i _=>l.length - (intOf i).toNat)
 case atStart=>exact⟨0,0,rfl,rfl,Nat.zero_le _,H0,Nat.zero_le _,HB1⟩
 case round=>
  obtain⟨D,k,rfl,rfl,hk,hD,hDM,hbw⟩:=hrel;clear H0 HB1;by_cases hlt:k<l.length
  . obtain⟨g,off,rfl,hg,hL⟩: ∃g off,oa=some ⟨g,off,none⟩/\g<w.heap.size/\Ak w w.heap.size l g off:=by
     rcases hl with rfl|h
     . simp at hlt
     . exact h
    obtain⟨⟨key,x⟩,hx⟩: ∃v,l[k]? =some v:=⟨_,List.getElem?_eq_getElem hlt⟩;have hmem:(key,x) ∈ l:=List.mem_of_getElem? hx;have hbv:=Ck hmem;simp only at hbv;have hdv:=Ja x;have hdrop:l.drop k=(key,x)::l.drop (k+1):=C3 hx;have hD':=hD.out;rw[hdrop]at hD';simp only[Gn,Wv]at hD';have IHx:=HI.out _ hmem;have hz:=hbw.out.size;obtain⟨m,hm⟩: ∃m,Dv x=m:=⟨_,rfl⟩;obtain⟨k',b',n',t',l',o'⟩:=x;obtain⟨la',lc',oa',oc',hvs,c0,c1,c2,c3,c4,c5,c6⟩:=(hL.below hg hbw.out).seven hx;have CT:=IHx _ (wr.alloc (.cells #[.string key,.int .i64 k',.bool b',.int .i64 n',.string t',.slice la' l'.length lc',.slice oa' o'.length oc'] 94)) (Ac.more (by simp;omega) _ _ (hvs.below ((Below.refl _ _).alloc hz _))) (show(Val.mk k' b' n' t' l' o').bulk<=100000000 from by omega);simp only[hm]at CT;rw[hm]at hD' hdv;have hCT:=qz CT;have Hn:Hid (max (max D m) (Gn (l.drop (k+1)))=M):=by show _=_;omega
    have hmM:max D m<=M:=by omega
    have hbA:Hid (Below w.heap.size w (wr.alloc (.cells #[.string key,.int .i64 k',.bool b',.int .i64 n',.string t',.slice la' l'.length lc',.slice oa' o'.length oc'] 94))):=hbw.out.alloc hz _;clear CT hD hD' hdrop IHx hm hvs hx hmem hL hg hdv hbv;have Hmx:=qz (show max (D:Int) (m:Int)=((max D m:Nat):Int)from by omega);generalize max D m=Dm at*
    go_wp2_with (fail);(with_reducible refine hCT.out.mono ?_);rintro e w4 ⟨rfl,hb4⟩;have hbw4:=qz (hbA.out.trans (hb4.mono hbA.out.size));clear hb4 hbw hbA hCT;go_wp2;go_roundw
    case rel=>exact⟨Dm,k+1,by rw[Hmx.out],by go_num,by omega,Hn,hmM,hbw4⟩
    case measure=>simp only[intOf];omega
  . obtain rfl:k=l.length:=by omega
    have hD':=hD.out;rw[List.drop_length]at hD';simp only[Gn]at hD';obtain rfl:D=M:=by omega
    clear hD hD' hl;go_wp2;go_ret;exact⟨rfl,hbw.out⟩
theorem Zd: ∀v,Adk v:=by
 refine Val.ind ?_;intro k b n t l o IHl IHo cs w hV hb;simp only[Ac]at hV;obtain⟨la,lc,oa,oc,rfl,hla,hoa⟩:=hV;simp only[Val.bulk]at hb;by_cases h5:k=5
 . subst h5;have:=Abz b n t l o.length IHl la oa oc lc w hla (by omega);simpa[Dv]using this
 by_cases h6:k=6
 . subst h6;have:=Ad4 b n t o l.length IHo la oa oc lc w hoa (by omega);simpa[Dv]using this
 have e:Dv (.mk k b n t l o)=1:=by simp[Dv,h5,h6]
 rw[e];have e5:(k==5)=false:=by simpa using h5
 have e6:(k==6)=false:=by simpa using h6
 clear e IHl IHo hla hoa hb h5 h6;go_enter Tryz.func135,Tryz.ntmps135;go_wp2;go_ret;exact⟨rfl,(Below.refl _ _).alloc (Nat.le_refl _) _⟩
structure MKey {α:Type} [DecidableEq α] (P:Program) (kt:TypeId) (f:α->Value):Prop where
 under: ∃d,P.underlying kt=some d/\ ∀a b,Instr.sameNow d (f a) (f b)=some (decide (a=b))
 check: ∀e w a,(Instr.checkKey e 10000 kt (f a)).run P w=.ok () w
theorem Ag1 (a b:ByteArray):(a==b)=decide (a=b):=by
 obtain⟨a⟩:=a;obtain⟨b⟩:=b;have h:((⟨a⟩:ByteArray)==⟨b⟩)=(a==b):=rfl;rw[h];by_cases e:a=b<;>simp[e]
theorem Xn {P:Program} {kt:TypeId} (h:P.underlying kt=some .string):MKey P kt Value.string:=by
 refine⟨⟨_,h,fun a b=> ?_⟩,fun e w a=> ?_⟩
 . simp only[Instr.sameNow]
   congr 1
   exact Ag1 a b
 . have key: ∀n,(Instr.checkKey e (n+1) kt (.string a)).run P w=.ok () w:=fun n=>by simp[Instr.checkKey,run_underlying h]
   exact key 9999
theorem Ae1 {P:Program} {kt:TypeId} {q:IntKind} (h:P.underlying kt=some (.int q)):MKey P kt (Value.int q):=by
 refine⟨⟨_,h,fun a b=> ?_⟩,fun e w a=> ?_⟩
 . simp only[Instr.sameNow,if_true]
   congr 1
 . have key: ∀n,(Instr.checkKey e (n+1) kt (.int q a)).run P w=.ok () w:=fun n=>by simp[Instr.checkKey,run_underlying h]
   exact key 9999
section
variable {α:Type}
def Iu (f:α->Value):List (α×Value)->Nat->List MapEntry
 | [],_=> []
 |(k,v)::r,i=>{key:=f k,val:=v,born:=i}::Iu f r (i+1)
def Cr (f:α->Value) (w:World) (g:Nat) (kv:List (α×Value)):Prop:=w.heap[g]? =some (.map (Iu f kv 0).toArray kv.length)
def Ed [DecidableEq α] (a:α):List (α×Value)->Option Value
 | []=>none
 |(k,v)::r=>if a=k then some v else Ed a r
variable {f:α->Value} {P:Program} {kt et t:TypeId} {w w':World} {g:Nat} {kv:List (α×Value)}
theorem Nb: ∀(kv:List (α×Value)) (i:Nat) (k:α) (v:Value),Iu f (kv++ [(k,v)]) i=Iu f kv i++ [{key:=f k,val:=v,born:=i+kv.length}]
 | [],i,k,v=>by simp[Iu]
 |(a,b)::r,i,k,v=>by
  simp only[List.cons_append,Iu,Nb r,List.length_cons];rw[show i+1+r.length=i+(r.length+1)from by omega]
theorem Cr.lt (h:Cr f w g kv):g<w.heap.size:=by
 rcases Nat.lt_or_ge g w.heap.size with h1|h1
 . exact h1
 . unfold Cr at h;rw[Array.getElem?_eq_none h1]at h;cases h
theorem Cr.keep (h:Cr f w g kv) (hk:w'.heap[g]? =w.heap[g]?):Cr f w' g kv:=hk.trans h
theorem Cr.below {B:Nat} (h:Cr f w g kv) (hb:Below B w w') (hg:g<B):Cr f w' g kv:=(hb.block g hg).trans h
theorem Cr.alloc (h:Cr f w g kv) (o:Obj):Cr f (w.alloc o) g kv:=(Below.heap_alloc w o g h.lt).trans h
theorem Cr.new (w:World):Cr f (w.alloc (.map #[] 0)) w.heap.size []:=heap_alloc_new w _
theorem Cr.setCell (h:Cr f w g kv) {p:Addr} (hp:g≠p.block) (u:Value):Cr f (w.setCell p u) g kv:=(Below.heap_setCell w p u g hp).trans h
variable [DecidableEq α]
theorem Og {d:TypeDesc} (hd: ∀a b,Instr.sameNow d (f a) (f b)=some (decide (a=b))) (a:α): ∀(kv:List (α×Value)) (i j:Nat),∃q,Instr.findNow d (f a) (Iu f kv i) j=some q/\q.map (·.2)=Ed a kv
 | [],_,_=>⟨none,rfl,rfl⟩
 |(k,v)::r,i,j=>by
  by_cases h:a=k
  . exact⟨some (j,v),by simp[Iu,Instr.findNow,hd,h],by simp[Ed,h]⟩
  . obtain⟨q,h1,h2⟩:=Og hd a r (i+1) (j+1);exact⟨q,by simp[Iu,Instr.findNow,hd,h,h1],by rw[h2];simp[Ed,h]⟩
theorem Kt (K:MKey P kt f) (ht:P.underlying t=some (.map kt et)) (h:Cr f w g kv) {a:α} (hn:Ed a kv=none) (v:Value):
 ∃w',(Instr.mapUpdate t (.map (some g)) (f a) v).run P w=.ok () w'/\Cr f w' g (kv++ [(a,v)])/\w.grownBy w' (some g)/\w'.heap.size=w.heap.size:=by
 obtain⟨d,hd,hs⟩:=K.under;obtain⟨q,h1,h2⟩:=Og hs a kv 0 0;rw[hn]at h2;have hq:q=none:=by cases q<;>simp_all
 subst hq;have hck:=K.check false w a;have hfk:(Instr.findKey kt (f a) (Iu f kv 0)).run P w=.ok none w:=by simp[Instr.findKey,Sem.run_bind,run_underlying hd,h1]
 have hlt:=h.lt;refine⟨{w with heap:=w.heap.setIfInBounds g (.map ((Iu f kv 0).toArray.push {key:=f a,val:=v,born:=kv.length}) (kv.length+1))}, ?_, ?_, ?_, ?_⟩
 . have hb:w.heap[g]? =some (.map (Iu f kv 0).toArray kv.length):=h;unfold Instr.mapUpdate;simp only[Sem.run_bind,run_underlying ht,Result.andThen,getObj,Sem.run,hb,hck,hfk,setObj]
 . unfold Cr;simp[hlt,Nb]
 . exact⟨rfl,rfl,rfl,by simp,fun k hk hne=>by simp only[Array.getElem?_setIfInBounds];rw[if_neg];rintro rfl;exact hne rfl⟩
 . simp
theorem C7 {ops:Array Oper} {rest:List Oper} {o:Oper} {a:Act} {Q:Exit->Act->World->Prop} (hg:o.guard=none) (m x u:Operand) (t:TypeId) (hop:o.op=Op.insert t m x u)
 (K:MKey P kt f) (ht:P.underlying t=some (.map kt et)) (hm:a.eval m=.map (some g)) (h:Cr f w g kv) {k:α} {v:Value} (hx:a.eval x=f k) (hv:a.eval u=v) (hn:Ed k kv=none)
 (hK: ∀w',Cr f w' g (kv++ [(k,v)])->w.grownBy w' (some g)->w'.heap.size=w.heap.size->wpList P ops Q rest (a.put o.dst undef) w'):wpList P ops Q (o::rest) a w:=by
 refine wpList_plain hg fun K' hK'=> ?_;obtain⟨w',hrun,r1,r2,r3⟩:=Kt K ht h hn v;unfold Oper.wp;simp[execOp,hop,hm,hx,hv,hrun,Result.andThen];exact hK' _ _ (hK w' r1 r2 r3)
theorem Jf (K:MKey P kt f) (ht:P.underlying t=some (.map kt et)) (h:Cr f w g kv) (a:α) {z:Value} (hz: ∀w,(zeroValue et).run P w=.ok z w) (c:Bool):
 (Instr.lookup t (.map (some g)) (f a) c).run P w=.ok (if c then .tuple #[(Ed a kv).getD z,.bool (Ed a kv).isSome]else(Ed a kv).getD z) w:=by
 obtain⟨d,hd,hs⟩:=K.under;obtain⟨q,h1,h2⟩:=Og hs a kv 0 0;have hck:=fun e=>K.check e w a;have hfk:(Instr.findKey kt (f a) (Iu f kv 0)).run P w=.ok q w:=by simp[Instr.findKey,Sem.run_bind,run_underlying hd,h1]
 have hb:w.heap[g]? =some (.map (Iu f kv 0).toArray kv.length):=h;unfold Instr.lookup;simp only[Sem.run_bind,run_underlying ht,Result.andThen,getObj,Sem.run,hb]
 cases q with
 |none=>
  have:Ed a kv=none:=by cases hq:Ed a kv<;>simp_all
  rw[this]
  cases c<;>simp[hck,hfk,hz w,Result.andThen]
 |some p=>
  obtain⟨i,v⟩:=p;have:Ed a kv=some v:=by rw[<-h2];rfl
  rw[this]
  cases c<;>simp[hck,hfk]
end
theorem We {t:List UInt8} {s:ByteArray}:(t==s.toList)=decide (t=s.data.toList):=by
 rw[ByteArray.toList_eq,Bool.eq_iff_iff];simp
end Go.Proofs.YtkmcjfkokoidcaaGreatDoor
