/- Parts: A key that is taken out of a tree: the entries, and the nodes' shapes. Plain. No condition. -/
import Derived.Test.YtnkmhaachfgaoaaGreatDoorKPq3
namespace Go.Proofs.YtnkmhaachfgaoaaGreatDoor
abbrev Ax:=ByteArray×Val
inductive Nd where
 |leaf (es:List Ax)
 |inner (ks:List Nd)
theorem Nd.ind {p:Nd->Prop} (h0: ∀es,p (.leaf es)) (h1: ∀ks,(∀k ∈ ks,p k)->p (.inner ks)): ∀n,p n:=by
 intro n;refine Nd.rec (motive_1:=p) (motive_2:=fun l=> ∀d ∈ l,p d) h0 h1 ?_ ?_ n
 . intro d hd
   cases hd
 . intro d r hd hr x hx;rcases List.mem_cons.1 hx with rfl|hx
   . exact hd
   . exact hr x hx
mutual
def A6:Nd->List Ax
 | .leaf es=>es
 | .inner ks=>Ap ks
def Ap:List Nd->List Ax
 | []=> []
 |k::r=>A6 k++Ap r
end
theorem A0: ∀(a b:List Nd),Ap (a++b)=Ap a++Ap b
 | [],b=>rfl
 |x::r,b=>by simp only[List.cons_append,Ap,A0 r b,List.append_assoc]
theorem I7 (x:Nd):Ap [x]=A6 x:=by simp[Ap]
theorem Ag1 {x:Nd} {l:List Nd} (h:x ∈ l): ∀e ∈ A6 x,e ∈ Ap l:=by
 induction l with
 |nil=>cases h
 |cons y r ih=>
  intro e he;simp only[Ap];rcases List.mem_cons.1 h with rfl|h
  . exact List.mem_append_left _ he
  . exact List.mem_append_right _ (ih h e he)
def Bz (k:ByteArray) (v:Val):List Ax->List Ax
 | []=> [(k,v)]
 |(a,x)::r=>if Bn a k then(a,x)::Bz k v r else if a=k then(k,v)::r else(k,v)::(a,x)::r
theorem Lh {k:ByteArray} {v:Val} {B:List Ax}: ∀{A:List Ax},(∀a ∈ A,Bn a.1 k=true)->Bz k v (A++B)=A++Bz k v B
 | [],_=>rfl
 |(a,x)::r,h=>by
  have h1:Bn a k=true:=h (a,x) (by simp);simp only[List.cons_append,Bz];rw[if_pos h1,Lh fun y hy=>h y (List.mem_cons_of_mem _ hy)]
theorem T1 {k:ByteArray} {v:Val}: ∀{C:List Ax},(∀c ∈ C,Bn k c.1=true)->Bz k v C=(k,v)::C
 | [],_=>rfl
 |(a,x)::r,h=>by
  have h1:Bn k a=true:=h (a,x) (by simp);simp only[Bz];rw[if_neg (by rw[Nz h1];simp),if_neg];rintro rfl;rw[Dc]at h1
  cases h1
theorem O2 {k:ByteArray} {v:Val} {C:List Ax} (h: ∀c ∈ C,Bn k c.1=true): ∀{B:List Ax},Bz k v (B++C)=Bz k v B++C
 | []=>by rw[List.nil_append,T1 h];rfl
 |(a,x)::r=>by
  simp only[List.cons_append,Bz];by_cases h1:Bn a k=true
  . rw[if_pos h1,if_pos h1,O2 h];rfl
  . rw[if_neg h1,if_neg h1];by_cases h2:a=k
    . rw[if_pos h2,if_pos h2];rfl
    . rw[if_neg h2,if_neg h2];rfl
theorem Im {k:ByteArray} {v:Val}: ∀(l:List Ax),(Bz k v l).length<=l.length+1/\0<(Bz k v l).length
 | []=>by simp[Bz]
 |(a,x)::r=>by
  simp only[Bz];have ih:=Im (k:=k) (v:=v) r;by_cases h1:Bn a k=true
  . rw[if_pos h1];simp;omega
  . rw[if_neg h1];by_cases h2:a=k
    . rw[if_pos h2];simp
    . rw[if_neg h2];simp
theorem Rw {k:ByteArray} {v:Val}: ∀{l:List Ax} {e:Ax},e ∈ Bz k v l->e=(k,v)\/e ∈ l
 | [],e,h=>by simp[Bz]at h;exact .inl h
 |(a,x)::r,e,h=>by
  simp only[Bz]at h;by_cases h1:Bn a k=true
  . rw[if_pos h1]at h;rcases List.mem_cons.1 h with rfl|h
    . exact .inr (by simp)
    . rcases Rw h with h|h
      . exact .inl h
      . exact .inr (List.mem_cons_of_mem _ h)
  . rw[if_neg h1]at h;by_cases h2:a=k
    . rw[if_pos h2]at h;rcases List.mem_cons.1 h with h|h
      . exact .inl h
      . exact .inr (List.mem_cons_of_mem _ h)
    . rw[if_neg h2]at h;rcases List.mem_cons.1 h with h|h
      . exact .inl h
      . exact .inr h
theorem Jx {k:ByteArray} {v:Val}: ∀{l:List Ax},Az l->Az (Bz k v l)
 | [],_=>by simp[Bz,Az]
 |(a,x)::r,h=>by
  obtain⟨h1,h2⟩:=List.pairwise_cons.1 h;simp only[Bz];by_cases hak:Bn a k=true
  . rw[if_pos hak];refine List.pairwise_cons.2 ⟨fun e he=> ?_,Jx h2⟩;rcases Rw he with rfl|he
    . exact hak
    . exact h1 e he
  . rw[if_neg hak];by_cases e:a=k
    . subst e;rw[if_pos rfl];exact List.pairwise_cons.2 ⟨h1,h2⟩
    . rw[if_neg e];have hka:Bn k a=true:=by
       rcases Fb a k with h|h|h
       . exact absurd h hak
       . exact absurd h e
       . exact h
      refine List.pairwise_cons.2 ⟨fun y hy=> ?_,h⟩;rcases List.mem_cons.1 hy with rfl|hy
      . exact hka
      . exact Bw hka (h1 y hy)
def Cb:Nat->Nat->Nd->Prop
 |lo,0,.leaf es=>lo<=es.length/\es.length<=8
 |lo,h+1,.inner ks=>lo<=ks.length/\ks.length<=8/\ ∀k ∈ ks,Cb 4 h k
 |_,_,_=>False
theorem Km {a b:Nat} (hab:a<=b): ∀{h:Nat} {n:Nd},Cb b h n->Cb a h n
 |0,.leaf es,h=>⟨by have:=h.1;omega,h.2⟩
 |0,.inner ks,h=>absurd h (by simp[Cb])
 |_+1,.leaf es,hn=>absurd hn (by simp[Cb])
 |_+1,.inner ks,hn=>by
  simp only[Cb]at hn ⊢;exact⟨by omega,hn.2⟩
theorem Kn: ∀{h:Nat} {n:Nd} {lo:Nat},0<lo->Cb lo h n->A6 n≠ []
 |0,.leaf es,_,h0,h=>by
  intro e;have h1:=h.1;have:es= []:=e;rw[this]at h1;simp at h1;omega
 |0,.inner ks,_,_,h=>absurd h (by simp[Cb])
 |h+1,.leaf es,_,_,hn=>absurd hn (by simp[Cb])
 |h+1,.inner ks,_,h0,hn=>by
  simp only[Cb]at hn;obtain⟨h1,_,h3⟩:=hn
  match ks,h1 with
  | [],h1=>simp at h1;omega
  |x::r,_=>
   have:=Kn (by omega) (h3 x (by simp));simp only[A6,Ap];intro e;exact this (List.append_eq_nil_iff.1 e).1
def Ao (n:Nd):ByteArray:=((A6 n).head?.map (·.1)).getD ByteArray.empty
theorem Fp {n:Nd} (h:A6 n≠ []): ∃x r,A6 n=(Ao n,x)::r:=by
 unfold Ao
 match hn:A6 n,h with
 |(a,x)::r,_=>exact⟨x,r,rfl⟩
def Ai (ks:List Nd) (k:ByteArray):Nat:=ks.findIdx (fun n=>Bn k (Ao n)) - 1
def Ce:List Nd->Nd
 | [x]=>x
 |ks=> .inner ks
theorem Dl {ks:List Nd} (h:2<=ks.length):Ce ks=.inner ks:=by
 match ks,h with
 |x::y::r,_=>rfl
def Gc (l:List Ax):Nd×Option Nd:=if l.length<=8 then(.leaf l,none)else(.leaf (l.take 4),some (.leaf (l.drop 4)))
def Gd (l:List Nd):Nd×Option Nd:=if l.length<=8 then(Ce l,none)else(Ce (l.take 4),some (Ce (l.drop 4)))
def Ck:Nat->Nd->ByteArray->Val->Nd×Option Nd
 |0,n,k,v=>Gc (Bz k v (A6 n))
 |_+1,.leaf es,k,v=>Gc (Bz k v es)
 |h+1,.inner ks,k,v=>Gd (ks.take (Ai ks k)++(Ck h (ks.getD (Ai ks k) (.leaf [])) k v).1::((Ck h (ks.getD (Ai ks k) (.leaf [])) k v).2.toList++ks.drop (Ai ks k+1)))
def Tk (r:Nd×Option Nd):List Ax:=A6 r.1++Ap r.2.toList
theorem H6 {ks:List Nd} {k:ByteArray} {h:Nat} (h2:ks≠ []) (hk: ∀x ∈ ks,Cb 4 h x) (ha:Az (Ap ks)):
 ∃A x C,ks=A++x::C/\A.length=Ai ks k/\(∀a ∈ Ap A,Bn a.1 k=true)/\(∀c ∈ Ap C,Bn k c.1=true):=by
 have hlt:Ai ks k<ks.length:=by
  have:=List.findIdx_le_length (xs:=ks) (p:=fun n=>Bn k (Ao n));have:0<ks.length:=List.length_pos_iff.2 h2;unfold Ai;omega
 refine⟨ks.take (Ai ks k),ks[Ai ks k],ks.drop (Ai ks k+1), ?_,by rw[List.length_take];omega, ?_, ?_⟩
 . rw[List.getElem_cons_drop,List.take_append_drop]
 . intro a haa;have hj:Ai ks k≠0:=by
    intro e;rw[e]at haa;simp[Ap]at haa
   have hx:Bn k (Ao ks[Ai ks k])=false:=by
    have:=List.not_of_lt_findIdx (xs:=ks) (p:=fun n=>Bn k (Ao n)) (i:=Ai ks k) (by unfold Ai at hj ⊢;omega);simpa using this
   obtain⟨v,r,hf⟩:=Fp (Kn (by omega) (hk ks[Ai ks k] (List.getElem_mem hlt)));have e:ks=ks.take (Ai ks k)++ks[Ai ks k]::ks.drop (Ai ks k+1):=by rw[List.getElem_cons_drop,List.take_append_drop]
   have ha':=ha;rw[e,A0]at ha';have h3:=(List.pairwise_append.1 ha').2.2 a haa (Ao ks[Ai ks k],v) (by simp only[Ap];rw[hf];simp);rcases Fb (Ao ks[Ai ks k]) k with h|h|h
   . exact Bw h3 h
   . rw[<-h];exact h3
   . rw[hx]at h;cases h
 . intro c hc;have e:ks=ks.take (Ai ks k)++ks[Ai ks k]::ks.drop (Ai ks k+1):=by rw[List.getElem_cons_drop,List.take_append_drop]
   have ha':=ha;rw[e,A0]at ha';have ha2:=(List.pairwise_append.1 ha').2.1;simp only[Ap]at ha2;by_cases hj:ks.findIdx (fun n=>Bn k (Ao n))=0
   . have hw:Ai ks k=0:=by unfold Ai;omega
     have hp:Bn k (Ao ks[Ai ks k])=true:=by
      have:=List.findIdx_getElem (xs:=ks) (p:=fun n=>Bn k (Ao n)) (w:=by rw[hj];exact List.length_pos_iff.2 h2);simp only[hj]at this;simpa[hw]using this
     obtain⟨v,r,hf⟩:=Fp (Kn (by omega) (hk ks[Ai ks k] (List.getElem_mem hlt)));have h3:=(List.pairwise_append.1 ha2).2.2 (Ao ks[Ai ks k],v) (by rw[hf];simp) c hc;exact Bw hp h3
   . have hw:Ai ks k+1=ks.findIdx (fun n=>Bn k (Ao n)):=by unfold Ai;omega
     rw[hw]at hc ha2;by_cases hl:ks.findIdx (fun n=>Bn k (Ao n))<ks.length
     . have hp:Bn k (Ao ks[ks.findIdx (fun n=>Bn k (Ao n))])=true:=List.findIdx_getElem (xs:=ks) (p:=fun n=>Bn k (Ao n)) (w:=hl);have ha3:=(List.pairwise_append.1 ha2).2.1;rw[List.drop_eq_getElem_cons hl]at hc ha3;simp only[Ap]at hc ha3;obtain⟨v,r,hf⟩:=Fp (Kn (by omega) (hk _ (List.getElem_mem hl)));rw[hf]at hc ha3;rw[List.cons_append]at hc ha3;rcases List.mem_cons.1 hc with rfl|hc
       . exact hp
       . exact Bw hp ((List.pairwise_cons.1 ha3).1 c hc)
     . rw[List.drop_eq_nil_of_le (by omega)]at hc;simp[Ap]at hc
def okR (lo h:Nat) (r:Nd×Option Nd):Prop:=Cb lo h r.1/\ ∀m,r.2=some m->Cb 4 h r.1/\Cb 4 h m
theorem Ado {l:List Ax} {lo:Nat} (h4:lo<=4) (h0:lo<=l.length) (h9:l.length<=9):Tk (Gc l)=l/\okR lo 0 (Gc l):=by
 unfold Gc;by_cases h:l.length<=8
 . rw[if_pos h];exact⟨by simp[Tk,A6,Ap],⟨h0,h⟩,fun m e=>by cases e⟩
 . rw[if_neg h];have ha:Cb 4 0 (.leaf (l.take 4)):=⟨by rw[List.length_take];omega,by rw[List.length_take];omega⟩;refine⟨by simp[Tk,A6,Ap],Km h4 ha,fun m e=>⟨ha, ?_⟩⟩
   cases e
   exact⟨by rw[List.length_drop];omega,by rw[List.length_drop];omega⟩
theorem Adp {l:List Nd} {h lo:Nat} (h4:lo<=4) (h0:lo<=l.length) (h2:2<=l.length) (h9:l.length<=9) (hk: ∀x ∈ l,Cb 4 h x):Tk (Gd l)=Ap l/\okR lo (h+1) (Gd l):=by
 unfold Gd;by_cases h8:l.length<=8
 . rw[if_pos h8,Dl h2];exact⟨by simp[Tk,A6,Ap],⟨h0,h8,hk⟩,fun m e=>by cases e⟩
 . rw[if_neg h8,Dl (by rw[List.length_take];omega),Dl (by rw[List.length_drop];omega)];have ha:Cb 4 (h+1) (.inner (l.take 4)):=⟨by rw[List.length_take];omega,by rw[List.length_take];omega,fun x hx=>hk x (List.mem_of_mem_take hx)⟩;refine⟨?_,Km h4 ha,fun m e=>⟨ha, ?_⟩⟩
   . simp only[Tk,Option.toList,I7,A6];rw[<-A0,List.take_append_drop]
   . cases e
     exact⟨by rw[List.length_drop];omega,by rw[List.length_drop];omega,fun x hx=>hk x (List.mem_of_mem_drop hx)⟩
theorem Ab6 {k:ByteArray} {v:Val}: ∀(l:List Ax),l.length<=(Bz k v l).length
 | []=>by simp
 |(a,x)::r=>by
  have ih:=Ab6 (k:=k) (v:=v) r;simp only[Bz];by_cases h1:Bn a k=true
  . rw[if_pos h1];simp;omega
  . rw[if_neg h1];by_cases h2:a=k
    . rw[if_pos h2];simp
    . rw[if_neg h2];simp
theorem Oh: ∀(h:Nat) {n:Nd} {lo:Nat} {k:ByteArray} {v:Val},lo<=4->0<lo\/h=0->(0<h->2<=lo)->Cb lo h n->Az (A6 n)->Tk (Ck h n k v)=Bz k v (A6 n)/\okR lo h (Ck h n k v)
 |0,.leaf es,lo,k,v,h4,_,_,hn,_=>by
  have hl:=Im (k:=k) (v:=v) es;have hg:=Ab6 (k:=k) (v:=v) es;have h1:=hn.1;have h2:=hn.2;simp only[Ck,A6];exact Ado h4 (by omega) (by omega)
 |0,.inner ks,_,_,_,_,_,_,hn,_=>absurd hn (by simp[Cb])
 |h+1,.leaf es,_,_,_,_,_,_,hn,_=>absurd hn (by simp[Cb])
 |h+1,.inner ks,lo,k,v,h4,h0,hlo2,hn,ha=>by
  simp only[Cb]at hn;obtain⟨h2,h8,hk⟩:=hn;have hlo:=hlo2 (by omega);have hne:ks≠ []:=by intro e;rw[e]at h2;simp at h2;omega
  obtain⟨A,x,C,e,hA,hlow,hhi⟩:=H6 (k:=k) hne hk ha;have hx:Cb 4 h x:=hk x (by rw[e];simp);have hax:Az (A6 x):=by
   have ha':Az (Ap ks):=ha;rw[e,A0]at ha';have:=(List.pairwise_append.1 ha').2.1;simp only[Ap]at this;exact(List.pairwise_append.1 this).1
  obtain⟨i1,i2,i3⟩:=Oh h (k:=k) (v:=v) (Nat.le_refl 4) (.inl (by omega)) (fun _=>by omega) hx hax;have eg:ks.getD (Ai ks k) (.leaf [])=x:=by rw[<-hA,e];simp
  have et:ks.take (Ai ks k)=A:=by rw[<-hA,e];simp
  have ed:ks.drop (Ai ks k+1)=C:=by rw[<-hA,e];simp
  have hlen:ks.length=A.length+1+C.length:=by rw[e];simp;omega
  have hR:(Ck h x k v).2.toList.length<=1:=by cases (Ck h x k v).2<;>simp
  simp only[Ck];rw[eg,et,ed];obtain⟨s1,s2⟩:=Adp (l:=A++(Ck h x k v).1::((Ck h x k v).2.toList++C)) (h:=h) h4 (by simp;omega) (by simp;omega) (by simp;omega) (fun y hy=>by
   rcases List.mem_append.1 hy with hy|hy
   . exact hk y (by rw[e];simp[hy])
   rcases List.mem_cons.1 hy with rfl|hy
   . exact i2
   rcases List.mem_append.1 hy with hy|hy
   . exact(i3 y (by simpa using hy)).2
   . exact hk y (by rw[e];simp[hy]))
  refine⟨?_,s2⟩;rw[s1,A0];simp only[Ap,A6,A0];have i1':A6 (Ck h x k v).1++Ap (Ck h x k v).2.toList=Bz k v (A6 x):=i1;rw[<-List.append_assoc (A6 (Ck h x k v).1),i1',e,A0,Lh hlow];simp only[Ap];rw[O2 hhi]
def Jy:Option (Nat×Nd)->ByteArray->Val->Option (Nat×Nd)
 |none,k,v=>some (0,.leaf [(k,v)])
 |some (h,n),k,v=>match Ck h n k v with
  |(a,none)=>some (h,a)
  |(a,some b)=>some (h+1,Ce [a,b])
def Ba:Option (Nat×Nd)->List Ax
 |none=> []
 |some (_,n)=>A6 n
def F9 (h:Nat):Nat:=if h=0 then 1 else 2
def M5:Option (Nat×Nd)->Prop
 |none=>True
 |some (h,n)=>Cb (F9 h) h n/\Az (A6 n)
theorem Es (h:Nat):F9 h<=2/\0<F9 h/\(0<h->2<=F9 h):=by
 unfold F9;by_cases e:h=0
 . rw[if_pos e];omega
 . rw[if_neg e];omega
theorem Ab7 {t:Option (Nat×Nd)} (k:ByteArray) (v:Val) (ht:M5 t):Ba (Jy t k v)=Bz k v (Ba t)/\M5 (Jy t k v):=by
 match t,ht with
 |none,_=>exact⟨rfl,⟨by simp[F9],by simp⟩,by simp[A6,Az]⟩
 |some (h,n),⟨hn,ha⟩=>
  obtain⟨l1,l2,l3⟩:=Es h;obtain⟨i1,i2,i3⟩:=Oh h (k:=k) (v:=v) (by omega) (.inl l2) l3 hn ha;have hp:=Jx (k:=k) (v:=v) ha
  match hr:Ck h n k v with
  |(a,none)=>
   have hP:Jy (some (h,n)) k v=some (h,a):=by simp only[Jy,hr]
   rw[hP];rw[hr]at i1 i2;have e:A6 a=Bz k v (A6 n):=by simpa[Tk,Ap]using i1
   exact⟨e,i2,by rw[e];exact hp⟩
  |(a,some b)=>
   have hP:Jy (some (h,n)) k v=some (h+1,.inner [a,b]):=by simp only[Jy,hr];rfl
   rw[hP];rw[hr]at i1 i2 i3;have e:A6 (.inner [a,b])=Bz k v (A6 n):=by simpa[Tk,Ap,A6]using i1
   obtain⟨o1,o2⟩:=i3 b rfl;refine⟨e,⟨by unfold F9;simp,by simp,fun x hx=> ?_⟩, ?_⟩
   . rcases List.mem_cons.1 hx with rfl|hx
     . exact o1
     . obtain rfl:=List.mem_singleton.1 hx;exact o2
   . show Az (A6 (.inner [a,b]));rw[e];exact hp
def B3 (k:ByteArray) (l:List Ax):List Ax:=l.filter fun e=> !decide (e.1=k)
def Gf (k:ByteArray) (l:List Ax):Bool:=l.any fun e=>decide (e.1=k)
theorem K9 (k:ByteArray) (a b:List Ax):B3 k (a++b)=B3 k a++B3 k b:=List.filter_append ..
theorem Xl (k:ByteArray) (a b:List Ax):Gf k (a++b)=(Gf k a||Gf k b):=List.any_append
theorem Lw {k:ByteArray} {l:List Ax} (h: ∀e ∈ l,e.1≠k):B3 k l=l/\Gf k l=false:=by
 constructor
 . refine List.filter_eq_self.2 fun e he=> ?_;rw[decide_eq_false (h e he)];rfl
 . refine List.any_eq_false.2 fun e he=> ?_;rw[decide_eq_false (h e he)];simp
theorem Jb {a b:ByteArray} (h:Bn a b=true):a≠b:=by
 rintro rfl;rw[Dc]at h
 cases h
theorem Qe {k:ByteArray} {l:List Ax} (h: ∀e ∈ l,Bn e.1 k=true):B3 k l=l/\Gf k l=false:=Lw fun e he=>Jb (h e he)
theorem Ii {k:ByteArray} {l:List Ax} (h: ∀e ∈ l,Bn k e.1=true):B3 k l=l/\Gf k l=false:=Lw fun e he=>(Jb (h e he)).symm
theorem Qy {k:ByteArray}: ∀{l:List Ax},Az l->Gf k l=true->(B3 k l).length+1=l.length
 | [],_,h=>by simp[Gf]at h
 |(a,x)::r,ha,h=>by
  obtain⟨h1,h2⟩:=List.pairwise_cons.1 ha;by_cases e:a=k
  . subst e;have hr:=Ii (k:=a) (l:=r) h1;have:B3 a ((a,x)::r)=B3 a r:=by simp[B3]
    rw[this,hr.1];rfl
  . have h3:Gf k r=true:=by simpa[Gf,e]using h
    have:B3 k ((a,x)::r)=(a,x)::B3 k r:=by simp[B3,e]
    rw[this,List.length_cons,List.length_cons,Qy h2 h3]
theorem La {k:ByteArray} {l:List Ax} (h:Az l):Az (B3 k l):=List.Pairwise.filter _ h
def A7:Nd->Nat
 | .leaf es=>es.length
 | .inner ks=>ks.length
theorem E7 {lo h:Nat} {n:Nd} (hn:Cb lo h n):lo<=A7 n/\A7 n<=8:=by
 match h,n,hn with
 |0,.leaf es,hn=>exact hn
 |_+1,.inner ks,hn=>simp only[Cb]at hn;exact⟨hn.1,hn.2.1⟩
theorem Va {a b h:Nat} {n:Nd} (hn:Cb a h n) (hs:b<=A7 n):Cb b h n:=by
 match h,n,hn with
 |0,.leaf es,hn=>exact⟨hs,hn.2⟩
 |_+1,.inner ks,hn=>simp only[Cb]at hn ⊢;exact⟨hs,hn.2⟩
def Gg (l r:List Ax):Nd×Option Nd:=
 if 4<l.length then(.leaf l.dropLast,some (.leaf (l.drop (l.length - 1)++r)))else if 4<r.length then(.leaf (l++r.take 1),some (.leaf (r.drop 1)))else(.leaf (l++r),none)
def Gh (l r:List Nd):Nd×Option Nd:=
 if 4<l.length then(Ce l.dropLast,some (Ce (l.drop (l.length - 1)++r)))else if 4<r.length then(Ce (l++r.take 1),some (Ce (r.drop 1)))else(Ce (l++r),none)
def Ek:Nd->Nd->Nd×Option Nd
 | .leaf a,.leaf b=>Gg a b
 | .inner a,.inner b=>Gh a b
 |a,_=>(a,none)
theorem W5 {α:Type} (l:List α):l.dropLast++l.drop (l.length - 1)=l:=by rw[List.dropLast_eq_take,List.take_append_drop]
theorem Afy {a b:List Ax} (ha:3<=a.length/\a.length<=8) (hb:3<=b.length/\b.length<=8) (hs:7<=a.length+b.length) (h3:a.length=3\/b.length=3):
 Tk (Gg a b)=a++b/\Cb 4 0 (Gg a b).1/\ ∀m,(Gg a b).2=some m->Cb 4 0 m:=by
 unfold Gg;by_cases h1:4<a.length
 . rw[if_pos h1];refine⟨?_,⟨by rw[List.length_dropLast];omega,by rw[List.length_dropLast];omega⟩,fun m e=> ?_⟩
   . simp only[Tk,Option.toList,I7,A6];rw[<-List.append_assoc,W5]
   . cases e
     exact⟨by rw[List.length_append,List.length_drop];omega,by rw[List.length_append,List.length_drop];omega⟩
 rw[if_neg h1];by_cases h2:4<b.length
 . rw[if_pos h2];refine⟨?_,⟨by rw[List.length_append,List.length_take];omega,by rw[List.length_append,List.length_take];omega⟩,fun m e=> ?_⟩
   . simp only[Tk,Option.toList,I7,A6];rw[List.append_assoc,List.take_append_drop]
   . cases e
     exact⟨by rw[List.length_drop];omega,by rw[List.length_drop];omega⟩
 . rw[if_neg h2];refine⟨by simp[Tk,A6,Ap],⟨by rw[List.length_append];omega,by rw[List.length_append];omega⟩,fun m e=>by cases e⟩
theorem Afz {a b:List Nd} {h:Nat} (ha:3<=a.length/\a.length<=8) (hb:3<=b.length/\b.length<=8) (hs:7<=a.length+b.length) (h3:a.length=3\/b.length=3) (ka: ∀x ∈ a,Cb 4 h x) (kb: ∀x ∈ b,Cb 4 h x):
 Tk (Gh a b)=Ap a++Ap b/\Cb 4 (h+1) (Gh a b).1/\ ∀m,(Gh a b).2=some m->Cb 4 (h+1) m:=by
 unfold Gh;by_cases h1:4<a.length
 . rw[if_pos h1,Dl (by rw[List.length_dropLast];omega),Dl (by rw[List.length_append,List.length_drop];omega)];refine⟨?_,⟨by rw[List.length_dropLast];omega,by rw[List.length_dropLast];omega,fun x hx=>ka x (List.dropLast_subset _ hx)⟩,fun m e=> ?_⟩
   . simp only[Tk,Option.toList,I7,A6];rw[A0,<-List.append_assoc,<-A0,W5]
   . cases e
     refine⟨by rw[List.length_append,List.length_drop];omega,by rw[List.length_append,List.length_drop];omega,fun x hx=> ?_⟩;rcases List.mem_append.1 hx with hx|hx
     . exact ka x (List.mem_of_mem_drop hx)
     . exact kb x hx
 rw[if_neg h1];by_cases h2:4<b.length
 . rw[if_pos h2,Dl (by rw[List.length_append];omega),Dl (by rw[List.length_drop];omega)];refine⟨?_,⟨by rw[List.length_append,List.length_take];omega,by rw[List.length_append,List.length_take];omega,fun x hx=> ?_⟩,fun m e=> ?_⟩
   . simp only[Tk,Option.toList,I7,A6];rw[A0,List.append_assoc,<-A0,List.take_append_drop]
   . rcases List.mem_append.1 hx with hx|hx
     . exact ka x hx
     . exact kb x (List.mem_of_mem_take hx)
   . cases e
     exact⟨by rw[List.length_drop];omega,by rw[List.length_drop];omega,fun x hx=>kb x (List.mem_of_mem_drop hx)⟩
 . rw[if_neg h2,Dl (by rw[List.length_append];omega)];refine⟨by simp[Tk,A6,Ap,A0],⟨by rw[List.length_append];omega,by rw[List.length_append];omega,fun x hx=> ?_⟩,fun m e=>by cases e⟩;rcases List.mem_append.1 hx with hx|hx
   . exact ka x hx
   . exact kb x hx
theorem Af0 {h:Nat} {a b:Nd} (ha:Cb 3 h a) (hb:Cb 3 h b) (hs:7<=A7 a+A7 b) (h3:A7 a=3\/A7 b=3):
 Tk (Ek a b)=A6 a++A6 b/\Cb 4 h (Ek a b).1/\ ∀m,(Ek a b).2=some m->Cb 4 h m:=by
 match h,a,b,ha,hb with
 |0,.leaf a,.leaf b,ha,hb=>exact Afy ha hb hs h3
 |h+1,.inner a,.inner b,ha,hb=>
  simp only[Cb]at ha hb;exact Afz ⟨ha.1,ha.2.1⟩ ⟨hb.1,hb.2.1⟩ hs h3 ha.2.2 hb.2.2
def F6 (ks:List Nd) (i:Nat):List Nd:=
 ks.take (i - 1)++(Ek (ks.getD (i - 1) (.leaf [])) (ks.getD (i - 1+1) (.leaf []))).1::((Ek (ks.getD (i - 1) (.leaf [])) (ks.getD (i - 1+1) (.leaf []))).2.toList++ks.drop (i - 1+2))
theorem Ab0 {A C:List Nd} {a b:Nd} {h:Nat} (ha:Cb 3 h a) (hb:Cb 3 h b) (hs:7<=A7 a+A7 b) (h3:A7 a=3\/A7 b=3) (hA: ∀y ∈ A,Cb 4 h y) (hC: ∀y ∈ C,Cb 4 h y):
 ∀R,R=A++(Ek a b).1::((Ek a b).2.toList++C)->Ap R=Ap (A++a::b::C)/\(∀y ∈ R,Cb 4 h y)/\A.length+C.length+1<=R.length/\R.length<=A.length+C.length+2:=by
 rintro R rfl;obtain⟨p1,p2,p3⟩:=Af0 ha hb hs h3;have hl:(Ek a b).2.toList.length<=1:=by cases (Ek a b).2<;>simp
 refine⟨?_,fun y hy=> ?_,by simp;omega,by simp;omega⟩
 . rw[A0,A0];simp only[Ap];rw[A0,<-List.append_assoc (A6 (Ek a b).1),<-List.append_assoc (A6 a),<-p1];rfl
 . rcases List.mem_append.1 hy with hy|hy
   . exact hA y hy
   rcases List.mem_cons.1 hy with rfl|hy
   . exact p2
   rcases List.mem_append.1 hy with hy|hy
   . exact p3 y (by simpa using hy)
   . exact hC y hy
theorem Ab1 {A C:List Nd} {x:Nd} {h:Nat} (hx:Cb 3 h x) (hs:A7 x=3) (hA: ∀y ∈ A,Cb 4 h y) (hC: ∀y ∈ C,Cb 4 h y) (h1:1<=A.length+C.length):
 Ap (F6 (A++x::C) A.length)=Ap (A++x::C)/\(∀y ∈ F6 (A++x::C) A.length,Cb 4 h y)/\A.length+C.length<=(F6 (A++x::C) A.length).length/\(F6 (A++x::C) A.length).length<=A.length+C.length+1:=by
 rcases List.eq_nil_or_concat A with rfl|⟨B,y,eA⟩
 . match C,h1 with
   |y::D,_=>
    have hy:=hC y (by simp);have:=Ab0 (A:= []) (C:=D) hx (Km (by omega) hy) (by have:=(E7 hy).1;omega) (.inl hs) (by simp) (fun z hz=>hC z (by simp[hz])) (F6 ([]++x::y::D) 0) (by simp[F6]);obtain⟨m1,m2,m3,m4⟩:=this;refine⟨m1,m2, ?_, ?_⟩
    . simpa using m3
    . simpa using m4
 . rw[List.concat_eq_append]at eA;subst eA;have hy:=hA y (by simp);have e:F6 (B++ [y]++x::C) (B++ [y]).length=B++(Ek y x).1::((Ek y x).2.toList++C):=by
    have e0:(B++ [y]).length - 1=B.length:=by simp
    have e1:B++ [y]++x::C=B++y::x::C:=by simp
    unfold F6;rw[e0,e1];have g1:(B++y::x::C).getD B.length (.leaf [])=y:=by simp
    have g2:(B++y::x::C).getD (B.length+1) (.leaf [])=x:=by
     rw[List.getD_eq_getElem?_getD,List.getElem?_append_right (by omega)];simp
    have g3:(B++y::x::C).drop (B.length+2)=C:=by
     simp[List.drop_append]
    rw[g1,g2,g3,List.take_left]
   have:=Ab0 (A:=B) (C:=C) (Km (by omega) hy) hx (by have:=(E7 hy).1;omega) (.inr hs) (fun z hz=>hA z (by simp[hz])) hC _ e;obtain⟨m1,m2,m3,m4⟩:=this;refine⟨?_,m2, ?_, ?_⟩
   . rw[m1];simp
   . have:(B++ [y]).length=B.length+1:=by simp
     omega
   . have:(B++ [y]).length=B.length+1:=by simp
     omega
def Gx:Nat->Nd->ByteArray->Option Nd
 |0,n,k=>if Gf k (A6 n)then some (.leaf (B3 k (A6 n)))else none
 |_+1,.leaf es,k=>if Gf k es then some (.leaf (B3 k es))else none
 |h+1,.inner ks,k=>match Gx h (ks.getD (Ai ks k) (.leaf [])) k with
  |none=>none
  |some x=>some (Ce (if A7 x<4 then F6 (ks.set (Ai ks k) x) (Ai ks k)else ks.set (Ai ks k) x))
def Afw (lo h:Nat) (k:ByteArray) (n:Nd):Option Nd->Prop
 |none=>Gf k (A6 n)=false
 |some x=>Gf k (A6 n)=true/\A6 x=B3 k (A6 n)/\((Cb (lo - 1) h x/\(0<h->2<=A7 x))\/ ∃g,h=g+1/\Cb 4 g x/\lo=2)
theorem Qh: ∀(h:Nat) {n:Nd} {lo:Nat} {k:ByteArray},0<lo->(0<h->2<=lo)->Cb lo h n->Az (A6 n)->Afw lo h k n (Gx h n k)
 |0,.leaf es,lo,k,h0,_,hn,ha=>by
  simp only[Gx];by_cases hk:Gf k (A6 (.leaf es))=true
  . rw[if_pos hk];have hl:=Qy (k:=k) (l:=es) ha hk;have hl':(B3 k (A6 (.leaf es))).length+1=es.length:=hl;refine⟨hk,rfl,.inl ⟨⟨?_, ?_⟩,fun c=>absurd c (by omega)⟩⟩
    . have:=hn.1;omega
    . have:=hn.2;omega
  . rw[if_neg hk];exact(by simpa using hk:Gf k (A6 (.leaf es))=false)
 |0,.inner ks,_,_,_,_,hn,_=>absurd hn (by simp[Cb])
 |h+1,.leaf es,_,_,_,_,hn,_=>absurd hn (by simp[Cb])
 |h+1,.inner ks,lo,k,h0,hlo2,hn,ha=>by
  simp only[Cb]at hn;obtain⟨h2,h8,hk⟩:=hn;have hlo:=hlo2 (by omega);have hne:ks≠ []:=by intro e;rw[e]at h2;simp at h2;omega
  obtain⟨A,x,C,e,hA,hlow,hhi⟩:=H6 (k:=k) hne hk ha;have hx:Cb 4 h x:=hk x (by rw[e];simp);have hax:Az (A6 x):=by
   have ha':Az (Ap ks):=ha;rw[e,A0]at ha';have:=(List.pairwise_append.1 ha').2.1;simp only[Ap]at this;exact(List.pairwise_append.1 this).1
  have ih:=Qh h (k:=k) (lo:=4) (by omega) (fun _=>by omega) hx hax;have eg:ks.getD (Ai ks k) (.leaf [])=x:=by rw[<-hA,e];simp
  have hlen:ks.length=A.length+1+C.length:=by rw[e];simp;omega
  have hfl:A6 (.inner ks)=Ap A++(A6 x++Ap C):=by
   simp only[A6];rw[e,A0];simp only[Ap]
  have hhas:Gf k (A6 (.inner ks))=Gf k (A6 x):=by rw[hfl,Xl,Xl,(Qe hlow).2,(Ii hhi).2];simp
  have hdel:B3 k (A6 (.inner ks))=Ap A++(B3 k (A6 x)++Ap C):=by rw[hfl,K9,K9,(Qe hlow).1,(Ii hhi).1]
  simp only[Gx];rw[eg]
  match hr:Gx h x k,ih with
  |none,ih=>exact hhas.trans ih
  |some y,ih=>
   obtain⟨i1,i2,i3⟩:=ih;have hy:Cb 3 h y:=by
    rcases i3 with i3|⟨_,_,_,c⟩
    . exact i3.1
    . omega
   have es:ks.set (Ai ks k) y=A++y::C:=by rw[<-hA,e];simp
   have hkA: ∀z ∈ A,Cb 4 h z:=fun z hz=>hk z (by rw[e];simp[hz]);have hkC: ∀z ∈ C,Cb 4 h z:=fun z hz=>hk z (by rw[e];simp[hz]);have key: ∀R:List Nd,Ap R=Ap (A++y::C)->(∀z ∈ R,Cb 4 h z)->A.length+C.length<=R.length->R.length<=8->Afw lo (h+1) k (.inner ks) (some (Ce R)):=by
    intro R r1 r2 r3 r4;have hf:A6 (Ce R)=B3 k (A6 (.inner ks)):=by
     have:A6 (Ce R)=Ap R:=by
      match R,r3 with
      | [],_=>rfl
      | [z],_=>simp[Ce,Ap]
      |z::w::q,_=>rfl
     rw[this,r1,hdel,A0,<-i2];simp only[Ap]
    refine⟨hhas.trans i1,hf, ?_⟩;by_cases h1:R.length=1
    . obtain⟨z,rfl⟩:=List.length_eq_one_iff.1 h1
      right
      exact⟨h,rfl,r2 z (by simp),by simp at r3;omega⟩
    . left
      rw[Dl (by omega)];simp only[Cb];exact⟨⟨by omega,r4,r2⟩,fun _=>by simp only[A7];omega⟩
   show Afw lo (h+1) k (.inner ks) (some (Ce (if A7 y<4 then F6 (ks.set (Ai ks k) y) (Ai ks k)else ks.set (Ai ks k) y)));rw[es,<-hA];by_cases h4:A7 y<4
   . rw[if_pos h4];obtain⟨m1,m2,m3,m4⟩:=Ab1 hy (by have:=(E7 hy).1;omega) hkA hkC (by omega);exact key _ m1 m2 m3 (by omega)
   . rw[if_neg h4];refine key _ rfl (fun z hz=> ?_) (by simp) (by simp;omega);rcases List.mem_append.1 hz with hz|hz
     . exact hkA z hz
     rcases List.mem_cons.1 hz with rfl|hz
     . exact Va hy (by omega)
     . exact hkC z hz
mutual
def I8:Nd->Nat
 | .leaf _=>0
 | .inner ks=>htL ks+1
def htL:List Nd->Nat
 | []=>0
 |k::_=>I8 k
end
theorem Lc: ∀{h:Nat} {n:Nd} {lo:Nat},0<lo\/h=0->Cb lo h n->I8 n=h
 |0,.leaf es,_,_,_=>by simp[I8]
 |0,.inner ks,_,_,hn=>absurd hn (by simp[Cb])
 |h+1,.leaf es,_,_,hn=>absurd hn (by simp[Cb])
 |h+1,.inner ks,lo,h0,hn=>by
  simp only[Cb]at hn
  match ks,hn with
  | [],hn=>have:=hn.1;simp at this;omega
  |k::r,hn=>simp only[I8,htL,Lc (.inl (by omega)) (hn.2.2 k (by simp))]
def Kx:Option (Nat×Nd)->ByteArray->Option (Nat×Nd)×Bool
 |none,_=>(none,false)
 |some (h,n),k=>match Gx h n k with
  |none=>(some (h,n),false)
  |some x=>(if(A6 x).isEmpty then none else some (I8 x,x),true)
theorem Ahh {t:Option (Nat×Nd)} (k:ByteArray) (ht:M5 t):Ba (Kx t k).1=B3 k (Ba t)/\M5 (Kx t k).1/\(Kx t k).2=Gf k (Ba t):=by
 match t,ht with
 |none,_=>exact⟨rfl,trivial,rfl⟩
 |some (h,n),⟨hn,ha⟩=>
  obtain⟨l1,l2,l3⟩:=Es h;have ho:=Qh h (k:=k) l2 l3 hn ha
  match hr:Gx h n k,ho with
  |none,ho=>
   have hP:Kx (some (h,n)) k=(some (h,n),false):=by simp only[Kx,hr]
   have hd:B3 k (A6 n)=A6 n:=by
    refine(Lw fun e he=> ?_).1;intro c;have h1:Gf k (A6 n)=false:=ho;have h2:Gf k (A6 n)=true:=List.any_eq_true.2 ⟨e,he,by rw[c];simp⟩;rw[h1]at h2;cases h2
   rw[hP];exact⟨hd.symm,⟨hn,ha⟩,(show Gf k (A6 n)=false from ho).symm⟩
  |some x,⟨h1,h2,h3⟩=>
   have hP:Kx (some (h,n)) k=(if(A6 x).isEmpty then none else some (I8 x,x),true):=by simp only[Kx,hr]
   rw[hP];have hax:Az (A6 x):=by rw[h2];exact La ha
   by_cases he:(A6 x).isEmpty=true
   . rw[if_pos he];refine⟨?_,trivial,h1.symm⟩;show []=B3 k (A6 n);rw[<-h2,List.isEmpty_iff.1 he]
   . rw[if_neg he];refine⟨h2, ?_,h1.symm⟩;show Cb (F9 (I8 x)) (I8 x) x/\Az (A6 x);refine⟨?_,hax⟩;have hpos:0<(A6 x).length:=List.length_pos_iff.2 fun c=>he (by rw[c];rfl);rcases h3 with⟨h3,h4⟩|⟨g,_,h3,_⟩
     . match h,x,h3,h4,hpos with
       |0,.leaf es,h3,h4,hpos=>
        simp only[I8];exact⟨by unfold F9;rw[if_pos rfl];exact hpos,h3.2⟩
       |h+1,.inner ks,h3,h4,hpos=>
        have e1:F9 (h+1)=2:=by unfold F9;rw[if_neg (by omega)]
        rw[e1]at h3;have e2:=Lc (.inl (by omega)) h3;rw[e2,e1];exact Va h3 (h4 (by omega))
     . have e2:=Lc (.inl (by omega)) h3;rw[e2];exact Km (by have:=Es g;omega) h3
end Go.Proofs.YtnkmhaachfgaoaaGreatDoor
