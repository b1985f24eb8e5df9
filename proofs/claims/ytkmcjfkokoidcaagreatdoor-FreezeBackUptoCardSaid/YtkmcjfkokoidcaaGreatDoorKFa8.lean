/- Parts: A key that is taken out of a tree: the entries, and the nodes' shapes. Plain. No condition. -/
import Derived.Test.YtkmcjfkokoidcaaGreatDoorKFa5
namespace Go.Proofs.YtkmcjfkokoidcaaGreatDoor
abbrev A5:=ByteArray×Val
inductive Nd where
 |leaf (es:List A5)
 |inner (ks:List Nd)
theorem Nd.ind {p:Nd->Prop} (h0: ∀es,p (.leaf es)) (h1: ∀ks,(∀k ∈ ks,p k)->p (.inner ks)): ∀n,p n:=by
 intro n;refine Nd.rec (motive_1:=p) (motive_2:=fun l=> ∀d ∈ l,p d) h0 h1 ?_ ?_ n
 . intro d hd
   cases hd
 . intro d r hd hr x hx;rcases List.mem_cons.1 hx with rfl|hx
   . exact hd
   . exact hr x hx
mutual
def Bi:Nd->List A5
 | .leaf es=>es
 | .inner ks=>Bg ks
def Bg:List Nd->List A5
 | []=> []
 |k::r=>Bi k++Bg r
end
theorem Be: ∀(a b:List Nd),Bg (a++b)=Bg a++Bg b
 | [],b=>rfl
 |x::r,b=>by simp only[List.cons_append,Bg,Be r b,List.append_assoc]
theorem Jq (x:Nd):Bg [x]=Bi x:=by simp[Bg]
theorem Aml {x:Nd} {l:List Nd} (h:x ∈ l): ∀e ∈ Bi x,e ∈ Bg l:=by
 induction l with
 |nil=>cases h
 |cons y r ih=>
  intro e he;simp only[Bg];rcases List.mem_cons.1 h with rfl|h
  . exact List.mem_append_left _ he
  . exact List.mem_append_right _ (ih h e he)
def Cf (k:ByteArray) (v:Val):List A5->List A5
 | []=> [(k,v)]
 |(a,x)::r=>if Dp a k then(a,x)::Cf k v r else if a=k then(k,v)::r else(k,v)::(a,x)::r
theorem Qh {k:ByteArray} {v:Val} {B:List A5}: ∀{A:List A5},(∀a ∈ A,Dp a.1 k=true)->Cf k v (A++B)=A++Cf k v B
 | [],_=>rfl
 |(a,x)::r,h=>by
  have h1:Dp a k=true:=h (a,x) (by simp);simp only[List.cons_append,Cf];rw[if_pos h1,Qh fun y hy=>h y (List.mem_cons_of_mem _ hy)]
theorem Xt {k:ByteArray} {v:Val}: ∀{C:List A5},(∀c ∈ C,Dp k c.1=true)->Cf k v C=(k,v)::C
 | [],_=>rfl
 |(a,x)::r,h=>by
  have h1:Dp k a=true:=h (a,x) (by simp);simp only[Cf];rw[if_neg (by rw[Ud h1];simp),if_neg];rintro rfl;rw[Iq]at h1
  cases h1
theorem Rg {k:ByteArray} {v:Val} {C:List A5} (h: ∀c ∈ C,Dp k c.1=true): ∀{B:List A5},Cf k v (B++C)=Cf k v B++C
 | []=>by rw[List.nil_append,Xt h];rfl
 |(a,x)::r=>by
  simp only[List.cons_append,Cf];by_cases h1:Dp a k=true
  . rw[if_pos h1,if_pos h1,Rg h];rfl
  . rw[if_neg h1,if_neg h1];by_cases h2:a=k
    . rw[if_pos h2,if_pos h2];rfl
    . rw[if_neg h2,if_neg h2];rfl
theorem Ll {k:ByteArray} {v:Val}: ∀(l:List A5),(Cf k v l).length<=l.length+1/\0<(Cf k v l).length
 | []=>by simp[Cf]
 |(a,x)::r=>by
  simp only[Cf];have ih:=Ll (k:=k) (v:=v) r;by_cases h1:Dp a k=true
  . rw[if_pos h1];simp;omega
  . rw[if_neg h1];by_cases h2:a=k
    . rw[if_pos h2];simp
    . rw[if_neg h2];simp
theorem Uv {k:ByteArray} {v:Val}: ∀{l:List A5} {e:A5},e ∈ Cf k v l->e=(k,v)\/e ∈ l
 | [],e,h=>by simp[Cf]at h;exact .inl h
 |(a,x)::r,e,h=>by
  simp only[Cf]at h;by_cases h1:Dp a k=true
  . rw[if_pos h1]at h;rcases List.mem_cons.1 h with rfl|h
    . exact .inr (by simp)
    . rcases Uv h with h|h
      . exact .inl h
      . exact .inr (List.mem_cons_of_mem _ h)
  . rw[if_neg h1]at h;by_cases h2:a=k
    . rw[if_pos h2]at h;rcases List.mem_cons.1 h with h|h
      . exact .inl h
      . exact .inr (List.mem_cons_of_mem _ h)
    . rw[if_neg h2]at h;rcases List.mem_cons.1 h with h|h
      . exact .inl h
      . exact .inr h
theorem Kd {k:ByteArray} {v:Val}: ∀{l:List A5},Ay l->Ay (Cf k v l)
 | [],_=>by simp[Cf,Ay]
 |(a,x)::r,h=>by
  obtain⟨h1,h2⟩:=List.pairwise_cons.1 h;simp only[Cf];by_cases hak:Dp a k=true
  . rw[if_pos hak];refine List.pairwise_cons.2 ⟨fun e he=> ?_,Kd h2⟩;rcases Uv he with rfl|he
    . exact hak
    . exact h1 e he
  . rw[if_neg hak];by_cases e:a=k
    . subst e;rw[if_pos rfl];exact List.pairwise_cons.2 ⟨h1,h2⟩
    . rw[if_neg e];have hka:Dp k a=true:=by
       rcases Ku a k with h|h|h
       . exact absurd h hak
       . exact absurd h e
       . exact h
      refine List.pairwise_cons.2 ⟨fun y hy=> ?_,h⟩;rcases List.mem_cons.1 hy with rfl|hy
      . exact hka
      . exact C0 hka (h1 y hy)
def Co:Nat->Nat->Nd->Prop
 |lo,0,.leaf es=>lo<=es.length/\es.length<=8
 |lo,h+1,.inner ks=>lo<=ks.length/\ks.length<=8/\ ∀k ∈ ks,Co 4 h k
 |_,_,_=>False
theorem Mg {a b:Nat} (hab:a<=b): ∀{h:Nat} {n:Nd},Co b h n->Co a h n
 |0,.leaf es,h=>⟨by have:=h.1;omega,h.2⟩
 |0,.inner ks,h=>absurd h (by simp[Co])
 |_+1,.leaf es,hn=>absurd hn (by simp[Co])
 |_+1,.inner ks,hn=>by
  simp only[Co]at hn ⊢;exact⟨by omega,hn.2⟩
theorem K9: ∀{h:Nat} {n:Nd} {lo:Nat},0<lo->Co lo h n->Bi n≠ []
 |0,.leaf es,_,h0,h=>by
  intro e;have h1:=h.1;have:es= []:=e;rw[this]at h1;simp at h1;omega
 |0,.inner ks,_,_,h=>absurd h (by simp[Co])
 |h+1,.leaf es,_,_,hn=>absurd hn (by simp[Co])
 |h+1,.inner ks,_,h0,hn=>by
  simp only[Co]at hn;obtain⟨h1,_,h3⟩:=hn
  match ks,h1 with
  | [],h1=>simp at h1;omega
  |x::r,_=>
   have:=K9 (by omega) (h3 x (by simp));simp only[Bi,Bg];intro e;exact this (List.append_eq_nil_iff.1 e).1
def A7 (n:Nd):ByteArray:=((Bi n).head?.map (·.1)).getD ByteArray.empty
theorem Ip {n:Nd} (h:Bi n≠ []): ∃x r,Bi n=(A7 n,x)::r:=by
 unfold A7
 match hn:Bi n,h with
 |(a,x)::r,_=>exact⟨x,r,rfl⟩
def An (ks:List Nd) (k:ByteArray):Nat:=ks.findIdx (fun n=>Dp k (A7 n)) - 1
def Cu:List Nd->Nd
 | [x]=>x
 |ks=> .inner ks
theorem El {ks:List Nd} (h:2<=ks.length):Cu ks=.inner ks:=by
 match ks,h with
 |x::y::r,_=>rfl
def Hh (l:List A5):Nd×Option Nd:=if l.length<=8 then(.leaf l,none)else(.leaf (l.take 4),some (.leaf (l.drop 4)))
def Hs (l:List Nd):Nd×Option Nd:=if l.length<=8 then(Cu l,none)else(Cu (l.take 4),some (Cu (l.drop 4)))
def C8:Nat->Nd->ByteArray->Val->Nd×Option Nd
 |0,n,k,v=>Hh (Cf k v (Bi n))
 |_+1,.leaf es,k,v=>Hh (Cf k v es)
 |h+1,.inner ks,k,v=>Hs (ks.take (An ks k)++(C8 h (ks.getD (An ks k) (.leaf [])) k v).1::((C8 h (ks.getD (An ks k) (.leaf [])) k v).2.toList++ks.drop (An ks k+1)))
def Wz (r:Nd×Option Nd):List A5:=Bi r.1++Bg r.2.toList
theorem H9 {ks:List Nd} {k:ByteArray} {h:Nat} (h2:ks≠ []) (hk: ∀x ∈ ks,Co 4 h x) (ha:Ay (Bg ks)):
 ∃A x C,ks=A++x::C/\A.length=An ks k/\(∀a ∈ Bg A,Dp a.1 k=true)/\(∀c ∈ Bg C,Dp k c.1=true):=by
 have hlt:An ks k<ks.length:=by
  have:=List.findIdx_le_length (xs:=ks) (p:=fun n=>Dp k (A7 n));have:0<ks.length:=List.length_pos_iff.2 h2;unfold An;omega
 refine⟨ks.take (An ks k),ks[An ks k],ks.drop (An ks k+1), ?_,by rw[List.length_take];omega, ?_, ?_⟩
 . rw[List.getElem_cons_drop,List.take_append_drop]
 . intro a haa;have hj:An ks k≠0:=by
    intro e;rw[e]at haa;simp[Bg]at haa
   have hx:Dp k (A7 ks[An ks k])=false:=by
    have:=List.not_of_lt_findIdx (xs:=ks) (p:=fun n=>Dp k (A7 n)) (i:=An ks k) (by unfold An at hj ⊢;omega);simpa using this
   obtain⟨v,r,hf⟩:=Ip (K9 (by omega) (hk ks[An ks k] (List.getElem_mem hlt)));have e:ks=ks.take (An ks k)++ks[An ks k]::ks.drop (An ks k+1):=by rw[List.getElem_cons_drop,List.take_append_drop]
   have ha':=ha;rw[e,Be]at ha';have h3:=(List.pairwise_append.1 ha').2.2 a haa (A7 ks[An ks k],v) (by simp only[Bg];rw[hf];simp);rcases Ku (A7 ks[An ks k]) k with h|h|h
   . exact C0 h3 h
   . rw[<-h];exact h3
   . rw[hx]at h;cases h
 . intro c hc;have e:ks=ks.take (An ks k)++ks[An ks k]::ks.drop (An ks k+1):=by rw[List.getElem_cons_drop,List.take_append_drop]
   have ha':=ha;rw[e,Be]at ha';have ha2:=(List.pairwise_append.1 ha').2.1;simp only[Bg]at ha2;by_cases hj:ks.findIdx (fun n=>Dp k (A7 n))=0
   . have hw:An ks k=0:=by unfold An;omega
     have hp:Dp k (A7 ks[An ks k])=true:=by
      have:=List.findIdx_getElem (xs:=ks) (p:=fun n=>Dp k (A7 n)) (w:=by rw[hj];exact List.length_pos_iff.2 h2);simp only[hj]at this;simpa[hw]using this
     obtain⟨v,r,hf⟩:=Ip (K9 (by omega) (hk ks[An ks k] (List.getElem_mem hlt)));have h3:=(List.pairwise_append.1 ha2).2.2 (A7 ks[An ks k],v) (by rw[hf];simp) c hc;exact C0 hp h3
   . have hw:An ks k+1=ks.findIdx (fun n=>Dp k (A7 n)):=by unfold An;omega
     rw[hw]at hc ha2;by_cases hl:ks.findIdx (fun n=>Dp k (A7 n))<ks.length
     . have hp:Dp k (A7 ks[ks.findIdx (fun n=>Dp k (A7 n))])=true:=List.findIdx_getElem (xs:=ks) (p:=fun n=>Dp k (A7 n)) (w:=hl);have ha3:=(List.pairwise_append.1 ha2).2.1;rw[List.drop_eq_getElem_cons hl]at hc ha3;simp only[Bg]at hc ha3;obtain⟨v,r,hf⟩:=Ip (K9 (by omega) (hk _ (List.getElem_mem hl)));rw[hf]at hc ha3;rw[List.cons_append]at hc ha3;rcases List.mem_cons.1 hc with rfl|hc
       . exact hp
       . exact C0 hp ((List.pairwise_cons.1 ha3).1 c hc)
     . rw[List.drop_eq_nil_of_le (by omega)]at hc;simp[Bg]at hc
def okR (lo h:Nat) (r:Nd×Option Nd):Prop:=Co lo h r.1/\ ∀m,r.2=some m->Co 4 h r.1/\Co 4 h m
theorem Aiv {l:List A5} {lo:Nat} (h4:lo<=4) (h0:lo<=l.length) (h9:l.length<=9):Wz (Hh l)=l/\okR lo 0 (Hh l):=by
 unfold Hh;by_cases h:l.length<=8
 . rw[if_pos h];exact⟨by simp[Wz,Bi,Bg],⟨h0,h⟩,fun m e=>by cases e⟩
 . rw[if_neg h];have ha:Co 4 0 (.leaf (l.take 4)):=⟨by rw[List.length_take];omega,by rw[List.length_take];omega⟩;refine⟨by simp[Wz,Bi,Bg],Mg h4 ha,fun m e=>⟨ha, ?_⟩⟩
   cases e
   exact⟨by rw[List.length_drop];omega,by rw[List.length_drop];omega⟩
theorem Aiw {l:List Nd} {h lo:Nat} (h4:lo<=4) (h0:lo<=l.length) (h2:2<=l.length) (h9:l.length<=9) (hk: ∀x ∈ l,Co 4 h x):Wz (Hs l)=Bg l/\okR lo (h+1) (Hs l):=by
 unfold Hs;by_cases h8:l.length<=8
 . rw[if_pos h8,El h2];exact⟨by simp[Wz,Bi,Bg],⟨h0,h8,hk⟩,fun m e=>by cases e⟩
 . rw[if_neg h8,El (by rw[List.length_take];omega),El (by rw[List.length_drop];omega)];have ha:Co 4 (h+1) (.inner (l.take 4)):=⟨by rw[List.length_take];omega,by rw[List.length_take];omega,fun x hx=>hk x (List.mem_of_mem_take hx)⟩;refine⟨?_,Mg h4 ha,fun m e=>⟨ha, ?_⟩⟩
   . simp only[Wz,Option.toList,Jq,Bi];rw[<-Be,List.take_append_drop]
   . cases e
     exact⟨by rw[List.length_drop];omega,by rw[List.length_drop];omega,fun x hx=>hk x (List.mem_of_mem_drop hx)⟩
theorem Agw {k:ByteArray} {v:Val}: ∀(l:List A5),l.length<=(Cf k v l).length
 | []=>by simp
 |(a,x)::r=>by
  have ih:=Agw (k:=k) (v:=v) r;simp only[Cf];by_cases h1:Dp a k=true
  . rw[if_pos h1];simp;omega
  . rw[if_neg h1];by_cases h2:a=k
    . rw[if_pos h2];simp
    . rw[if_neg h2];simp
theorem Qs: ∀(h:Nat) {n:Nd} {lo:Nat} {k:ByteArray} {v:Val},lo<=4->0<lo\/h=0->(0<h->2<=lo)->Co lo h n->Ay (Bi n)->Wz (C8 h n k v)=Cf k v (Bi n)/\okR lo h (C8 h n k v)
 |0,.leaf es,lo,k,v,h4,_,_,hn,_=>by
  have hl:=Ll (k:=k) (v:=v) es;have hg:=Agw (k:=k) (v:=v) es;have h1:=hn.1;have h2:=hn.2;simp only[C8,Bi];exact Aiv h4 (by omega) (by omega)
 |0,.inner ks,_,_,_,_,_,_,hn,_=>absurd hn (by simp[Co])
 |h+1,.leaf es,_,_,_,_,_,_,hn,_=>absurd hn (by simp[Co])
 |h+1,.inner ks,lo,k,v,h4,h0,hlo2,hn,ha=>by
  simp only[Co]at hn;obtain⟨h2,h8,hk⟩:=hn;have hlo:=hlo2 (by omega);have hne:ks≠ []:=by intro e;rw[e]at h2;simp at h2;omega
  obtain⟨A,x,C,e,hA,hlow,hhi⟩:=H9 (k:=k) hne hk ha;have hx:Co 4 h x:=hk x (by rw[e];simp);have hax:Ay (Bi x):=by
   have ha':Ay (Bg ks):=ha;rw[e,Be]at ha';have:=(List.pairwise_append.1 ha').2.1;simp only[Bg]at this;exact(List.pairwise_append.1 this).1
  obtain⟨i1,i2,i3⟩:=Qs h (k:=k) (v:=v) (Nat.le_refl 4) (.inl (by omega)) (fun _=>by omega) hx hax;have eg:ks.getD (An ks k) (.leaf [])=x:=by rw[<-hA,e];simp
  have et:ks.take (An ks k)=A:=by rw[<-hA,e];simp
  have ed:ks.drop (An ks k+1)=C:=by rw[<-hA,e];simp
  have hlen:ks.length=A.length+1+C.length:=by rw[e];simp;omega
  have hR:(C8 h x k v).2.toList.length<=1:=by cases (C8 h x k v).2<;>simp
  simp only[C8];rw[eg,et,ed];obtain⟨s1,s2⟩:=Aiw (l:=A++(C8 h x k v).1::((C8 h x k v).2.toList++C)) (h:=h) h4 (by simp;omega) (by simp;omega) (by simp;omega) (fun y hy=>by
   rcases List.mem_append.1 hy with hy|hy
   . exact hk y (by rw[e];simp[hy])
   rcases List.mem_cons.1 hy with rfl|hy
   . exact i2
   rcases List.mem_append.1 hy with hy|hy
   . exact(i3 y (by simpa using hy)).2
   . exact hk y (by rw[e];simp[hy]))
  refine⟨?_,s2⟩;rw[s1,Be];simp only[Bg,Bi,Be];have i1':Bi (C8 h x k v).1++Bg (C8 h x k v).2.toList=Cf k v (Bi x):=i1;rw[<-List.append_assoc (Bi (C8 h x k v).1),i1',e,Be,Qh hlow];simp only[Bg];rw[Rg hhi]
def Lm:Option (Nat×Nd)->ByteArray->Val->Option (Nat×Nd)
 |none,k,v=>some (0,.leaf [(k,v)])
 |some (h,n),k,v=>match C8 h n k v with
  |(a,none)=>some (h,a)
  |(a,some b)=>some (h+1,Cu [a,b])
def Ba:Option (Nat×Nd)->List A5
 |none=> []
 |some (_,n)=>Bi n
def F8 (h:Nat):Nat:=if h=0 then 1 else 2
def Pa:Option (Nat×Nd)->Prop
 |none=>True
 |some (h,n)=>Co (F8 h) h n/\Ay (Bi n)
theorem Fb (h:Nat):F8 h<=2/\0<F8 h/\(0<h->2<=F8 h):=by
 unfold F8;by_cases e:h=0
 . rw[if_pos e];omega
 . rw[if_neg e];omega
theorem Am8 {t:Option (Nat×Nd)} (k:ByteArray) (v:Val) (ht:Pa t):Ba (Lm t k v)=Cf k v (Ba t)/\Pa (Lm t k v):=by
 match t,ht with
 |none,_=>exact⟨rfl,⟨by simp[F8],by simp⟩,by simp[Bi,Ay]⟩
 |some (h,n),⟨hn,ha⟩=>
  obtain⟨l1,l2,l3⟩:=Fb h;obtain⟨i1,i2,i3⟩:=Qs h (k:=k) (v:=v) (by omega) (.inl l2) l3 hn ha;have hp:=Kd (k:=k) (v:=v) ha
  match hr:C8 h n k v with
  |(a,none)=>
   have hP:Lm (some (h,n)) k v=some (h,a):=by simp only[Lm,hr]
   rw[hP];rw[hr]at i1 i2;have e:Bi a=Cf k v (Bi n):=by simpa[Wz,Bg]using i1
   exact⟨e,i2,by rw[e];exact hp⟩
  |(a,some b)=>
   have hP:Lm (some (h,n)) k v=some (h+1,.inner [a,b]):=by simp only[Lm,hr];rfl
   rw[hP];rw[hr]at i1 i2 i3;have e:Bi (.inner [a,b])=Cf k v (Bi n):=by simpa[Wz,Bg,Bi]using i1
   obtain⟨o1,o2⟩:=i3 b rfl;refine⟨e,⟨by unfold F8;simp,by simp,fun x hx=> ?_⟩, ?_⟩
   . rcases List.mem_cons.1 hx with rfl|hx
     . exact o1
     . obtain rfl:=List.mem_singleton.1 hx;exact o2
   . show Ay (Bi (.inner [a,b]));rw[e];exact hp
def C1 (k:ByteArray) (l:List A5):List A5:=l.filter fun e=> !decide (e.1=k)
def Du (k:ByteArray) (l:List A5):Bool:=l.any fun e=>decide (e.1=k)
theorem P2 (k:ByteArray) (a b:List A5):C1 k (a++b)=C1 k a++C1 k b:=List.filter_append ..
theorem P9 (k:ByteArray) (a b:List A5):Du k (a++b)=(Du k a||Du k b):=List.any_append
theorem Nv {k:ByteArray} {l:List A5} (h: ∀e ∈ l,e.1≠k):C1 k l=l/\Du k l=false:=by
 constructor
 . refine List.filter_eq_self.2 fun e he=> ?_;rw[decide_eq_false (h e he)];rfl
 . refine List.any_eq_false.2 fun e he=> ?_;rw[decide_eq_false (h e he)];simp
theorem Ab2 {a b:ByteArray} (h:Dp a b=true):a≠b:=by
 rintro rfl;rw[Iq]at h
 cases h
theorem S8 {k:ByteArray} {l:List A5} (h: ∀e ∈ l,Dp e.1 k=true):C1 k l=l/\Du k l=false:=Nv fun e he=>Ab2 (h e he)
theorem J6 {k:ByteArray} {l:List A5} (h: ∀e ∈ l,Dp k e.1=true):C1 k l=l/\Du k l=false:=Nv fun e he=>(Ab2 (h e he)).symm
theorem Tq {k:ByteArray}: ∀{l:List A5},Ay l->Du k l=true->(C1 k l).length+1=l.length
 | [],_,h=>by simp[Du]at h
 |(a,x)::r,ha,h=>by
  obtain⟨h1,h2⟩:=List.pairwise_cons.1 ha;by_cases e:a=k
  . subst e;have hr:=J6 (k:=a) (l:=r) h1;have:C1 a ((a,x)::r)=C1 a r:=by simp[C1]
    rw[this,hr.1];rfl
  . have h3:Du k r=true:=by simpa[Du,e]using h
    have:C1 k ((a,x)::r)=(a,x)::C1 k r:=by simp[C1,e]
    rw[this,List.length_cons,List.length_cons,Tq h2 h3]
theorem M0 {k:ByteArray} {l:List A5} (h:Ay l):Ay (C1 k l):=List.Pairwise.filter _ h
def Bh:Nd->Nat
 | .leaf es=>es.length
 | .inner ks=>ks.length
theorem Gg {lo h:Nat} {n:Nd} (hn:Co lo h n):lo<=Bh n/\Bh n<=8:=by
 match h,n,hn with
 |0,.leaf es,hn=>exact hn
 |_+1,.inner ks,hn=>simp only[Co]at hn;exact⟨hn.1,hn.2.1⟩
theorem Zo {a b h:Nat} {n:Nd} (hn:Co a h n) (hs:b<=Bh n):Co b h n:=by
 match h,n,hn with
 |0,.leaf es,hn=>exact⟨hs,hn.2⟩
 |_+1,.inner ks,hn=>simp only[Co]at hn ⊢;exact⟨hs,hn.2⟩
def Ie (l r:List A5):Nd×Option Nd:=
 if 4<l.length then(.leaf l.dropLast,some (.leaf (l.drop (l.length - 1)++r)))else if 4<r.length then(.leaf (l++r.take 1),some (.leaf (r.drop 1)))else(.leaf (l++r),none)
def Ig (l r:List Nd):Nd×Option Nd:=
 if 4<l.length then(Cu l.dropLast,some (Cu (l.drop (l.length - 1)++r)))else if 4<r.length then(Cu (l++r.take 1),some (Cu (r.drop 1)))else(Cu (l++r),none)
def Ft:Nd->Nd->Nd×Option Nd
 | .leaf a,.leaf b=>Ie a b
 | .inner a,.inner b=>Ig a b
 |a,_=>(a,none)
theorem Aa6 {α:Type} (l:List α):l.dropLast++l.drop (l.length - 1)=l:=by rw[List.dropLast_eq_take,List.take_append_drop]
theorem Alb {a b:List A5} (ha:3<=a.length/\a.length<=8) (hb:3<=b.length/\b.length<=8) (hs:7<=a.length+b.length) (h3:a.length=3\/b.length=3):
 Wz (Ie a b)=a++b/\Co 4 0 (Ie a b).1/\ ∀m,(Ie a b).2=some m->Co 4 0 m:=by
 unfold Ie;by_cases h1:4<a.length
 . rw[if_pos h1];refine⟨?_,⟨by rw[List.length_dropLast];omega,by rw[List.length_dropLast];omega⟩,fun m e=> ?_⟩
   . simp only[Wz,Option.toList,Jq,Bi];rw[<-List.append_assoc,Aa6]
   . cases e
     exact⟨by rw[List.length_append,List.length_drop];omega,by rw[List.length_append,List.length_drop];omega⟩
 rw[if_neg h1];by_cases h2:4<b.length
 . rw[if_pos h2];refine⟨?_,⟨by rw[List.length_append,List.length_take];omega,by rw[List.length_append,List.length_take];omega⟩,fun m e=> ?_⟩
   . simp only[Wz,Option.toList,Jq,Bi];rw[List.append_assoc,List.take_append_drop]
   . cases e
     exact⟨by rw[List.length_drop];omega,by rw[List.length_drop];omega⟩
 . rw[if_neg h2];refine⟨by simp[Wz,Bi,Bg],⟨by rw[List.length_append];omega,by rw[List.length_append];omega⟩,fun m e=>by cases e⟩
theorem Alc {a b:List Nd} {h:Nat} (ha:3<=a.length/\a.length<=8) (hb:3<=b.length/\b.length<=8) (hs:7<=a.length+b.length) (h3:a.length=3\/b.length=3) (ka: ∀x ∈ a,Co 4 h x) (kb: ∀x ∈ b,Co 4 h x):
 Wz (Ig a b)=Bg a++Bg b/\Co 4 (h+1) (Ig a b).1/\ ∀m,(Ig a b).2=some m->Co 4 (h+1) m:=by
 unfold Ig;by_cases h1:4<a.length
 . rw[if_pos h1,El (by rw[List.length_dropLast];omega),El (by rw[List.length_append,List.length_drop];omega)];refine⟨?_,⟨by rw[List.length_dropLast];omega,by rw[List.length_dropLast];omega,fun x hx=>ka x (List.dropLast_subset _ hx)⟩,fun m e=> ?_⟩
   . simp only[Wz,Option.toList,Jq,Bi];rw[Be,<-List.append_assoc,<-Be,Aa6]
   . cases e
     refine⟨by rw[List.length_append,List.length_drop];omega,by rw[List.length_append,List.length_drop];omega,fun x hx=> ?_⟩;rcases List.mem_append.1 hx with hx|hx
     . exact ka x (List.mem_of_mem_drop hx)
     . exact kb x hx
 rw[if_neg h1];by_cases h2:4<b.length
 . rw[if_pos h2,El (by rw[List.length_append];omega),El (by rw[List.length_drop];omega)];refine⟨?_,⟨by rw[List.length_append,List.length_take];omega,by rw[List.length_append,List.length_take];omega,fun x hx=> ?_⟩,fun m e=> ?_⟩
   . simp only[Wz,Option.toList,Jq,Bi];rw[Be,List.append_assoc,<-Be,List.take_append_drop]
   . rcases List.mem_append.1 hx with hx|hx
     . exact ka x hx
     . exact kb x (List.mem_of_mem_take hx)
   . cases e
     exact⟨by rw[List.length_drop];omega,by rw[List.length_drop];omega,fun x hx=>kb x (List.mem_of_mem_drop hx)⟩
 . rw[if_neg h2,El (by rw[List.length_append];omega)];refine⟨by simp[Wz,Bi,Bg,Be],⟨by rw[List.length_append];omega,by rw[List.length_append];omega,fun x hx=> ?_⟩,fun m e=>by cases e⟩;rcases List.mem_append.1 hx with hx|hx
   . exact ka x hx
   . exact kb x hx
theorem Ald {h:Nat} {a b:Nd} (ha:Co 3 h a) (hb:Co 3 h b) (hs:7<=Bh a+Bh b) (h3:Bh a=3\/Bh b=3):
 Wz (Ft a b)=Bi a++Bi b/\Co 4 h (Ft a b).1/\ ∀m,(Ft a b).2=some m->Co 4 h m:=by
 match h,a,b,ha,hb with
 |0,.leaf a,.leaf b,ha,hb=>exact Alb ha hb hs h3
 |h+1,.inner a,.inner b,ha,hb=>
  simp only[Co]at ha hb;exact Alc ⟨ha.1,ha.2.1⟩ ⟨hb.1,hb.2.1⟩ hs h3 ha.2.2 hb.2.2
def G3 (ks:List Nd) (i:Nat):List Nd:=
 ks.take (i - 1)++(Ft (ks.getD (i - 1) (.leaf [])) (ks.getD (i - 1+1) (.leaf []))).1::((Ft (ks.getD (i - 1) (.leaf [])) (ks.getD (i - 1+1) (.leaf []))).2.toList++ks.drop (i - 1+2))
theorem Agr {A C:List Nd} {a b:Nd} {h:Nat} (ha:Co 3 h a) (hb:Co 3 h b) (hs:7<=Bh a+Bh b) (h3:Bh a=3\/Bh b=3) (hA: ∀y ∈ A,Co 4 h y) (hC: ∀y ∈ C,Co 4 h y):
 ∀R,R=A++(Ft a b).1::((Ft a b).2.toList++C)->Bg R=Bg (A++a::b::C)/\(∀y ∈ R,Co 4 h y)/\A.length+C.length+1<=R.length/\R.length<=A.length+C.length+2:=by
 rintro R rfl;obtain⟨p1,p2,p3⟩:=Ald ha hb hs h3;have hl:(Ft a b).2.toList.length<=1:=by cases (Ft a b).2<;>simp
 refine⟨?_,fun y hy=> ?_,by simp;omega,by simp;omega⟩
 . rw[Be,Be];simp only[Bg];rw[Be,<-List.append_assoc (Bi (Ft a b).1),<-List.append_assoc (Bi a),<-p1];rfl
 . rcases List.mem_append.1 hy with hy|hy
   . exact hA y hy
   rcases List.mem_cons.1 hy with rfl|hy
   . exact p2
   rcases List.mem_append.1 hy with hy|hy
   . exact p3 y (by simpa using hy)
   . exact hC y hy
theorem Ags {A C:List Nd} {x:Nd} {h:Nat} (hx:Co 3 h x) (hs:Bh x=3) (hA: ∀y ∈ A,Co 4 h y) (hC: ∀y ∈ C,Co 4 h y) (h1:1<=A.length+C.length):
 Bg (G3 (A++x::C) A.length)=Bg (A++x::C)/\(∀y ∈ G3 (A++x::C) A.length,Co 4 h y)/\A.length+C.length<=(G3 (A++x::C) A.length).length/\(G3 (A++x::C) A.length).length<=A.length+C.length+1:=by
 rcases List.eq_nil_or_concat A with rfl|⟨B,y,eA⟩
 . match C,h1 with
   |y::D,_=>
    have hy:=hC y (by simp);have:=Agr (A:= []) (C:=D) hx (Mg (by omega) hy) (by have:=(Gg hy).1;omega) (.inl hs) (by simp) (fun z hz=>hC z (by simp[hz])) (G3 ([]++x::y::D) 0) (by simp[G3]);obtain⟨m1,m2,m3,m4⟩:=this;refine⟨m1,m2, ?_, ?_⟩
    . simpa using m3
    . simpa using m4
 . rw[List.concat_eq_append]at eA;subst eA;have hy:=hA y (by simp);have e:G3 (B++ [y]++x::C) (B++ [y]).length=B++(Ft y x).1::((Ft y x).2.toList++C):=by
    have e0:(B++ [y]).length - 1=B.length:=by simp
    have e1:B++ [y]++x::C=B++y::x::C:=by simp
    unfold G3;rw[e0,e1];have g1:(B++y::x::C).getD B.length (.leaf [])=y:=by simp
    have g2:(B++y::x::C).getD (B.length+1) (.leaf [])=x:=by
     rw[List.getD_eq_getElem?_getD,List.getElem?_append_right (by omega)];simp
    have g3:(B++y::x::C).drop (B.length+2)=C:=by
     simp[List.drop_append]
    rw[g1,g2,g3,List.take_left]
   have:=Agr (A:=B) (C:=C) (Mg (by omega) hy) hx (by have:=(Gg hy).1;omega) (.inr hs) (fun z hz=>hA z (by simp[hz])) hC _ e;obtain⟨m1,m2,m3,m4⟩:=this;refine⟨?_,m2, ?_, ?_⟩
   . rw[m1];simp
   . have:(B++ [y]).length=B.length+1:=by simp
     omega
   . have:(B++ [y]).length=B.length+1:=by simp
     omega
def Jg:Nat->Nd->ByteArray->Option Nd
 |0,n,k=>if Du k (Bi n)then some (.leaf (C1 k (Bi n)))else none
 |_+1,.leaf es,k=>if Du k es then some (.leaf (C1 k es))else none
 |h+1,.inner ks,k=>match Jg h (ks.getD (An ks k) (.leaf [])) k with
  |none=>none
  |some x=>some (Cu (if Bh x<4 then G3 (ks.set (An ks k) x) (An ks k)else ks.set (An ks k) x))
def Ala (lo h:Nat) (k:ByteArray) (n:Nd):Option Nd->Prop
 |none=>Du k (Bi n)=false
 |some x=>Du k (Bi n)=true/\Bi x=C1 k (Bi n)/\((Co (lo - 1) h x/\(0<h->2<=Bh x))\/ ∃g,h=g+1/\Co 4 g x/\lo=2)
theorem Te: ∀(h:Nat) {n:Nd} {lo:Nat} {k:ByteArray},0<lo->(0<h->2<=lo)->Co lo h n->Ay (Bi n)->Ala lo h k n (Jg h n k)
 |0,.leaf es,lo,k,h0,_,hn,ha=>by
  simp only[Jg];by_cases hk:Du k (Bi (.leaf es))=true
  . rw[if_pos hk];have hl:=Tq (k:=k) (l:=es) ha hk;have hl':(C1 k (Bi (.leaf es))).length+1=es.length:=hl;refine⟨hk,rfl,.inl ⟨⟨?_, ?_⟩,fun c=>absurd c (by omega)⟩⟩
    . have:=hn.1;omega
    . have:=hn.2;omega
  . rw[if_neg hk];exact(by simpa using hk:Du k (Bi (.leaf es))=false)
 |0,.inner ks,_,_,_,_,hn,_=>absurd hn (by simp[Co])
 |h+1,.leaf es,_,_,_,_,hn,_=>absurd hn (by simp[Co])
 |h+1,.inner ks,lo,k,h0,hlo2,hn,ha=>by
  simp only[Co]at hn;obtain⟨h2,h8,hk⟩:=hn;have hlo:=hlo2 (by omega);have hne:ks≠ []:=by intro e;rw[e]at h2;simp at h2;omega
  obtain⟨A,x,C,e,hA,hlow,hhi⟩:=H9 (k:=k) hne hk ha;have hx:Co 4 h x:=hk x (by rw[e];simp);have hax:Ay (Bi x):=by
   have ha':Ay (Bg ks):=ha;rw[e,Be]at ha';have:=(List.pairwise_append.1 ha').2.1;simp only[Bg]at this;exact(List.pairwise_append.1 this).1
  have ih:=Te h (k:=k) (lo:=4) (by omega) (fun _=>by omega) hx hax;have eg:ks.getD (An ks k) (.leaf [])=x:=by rw[<-hA,e];simp
  have hlen:ks.length=A.length+1+C.length:=by rw[e];simp;omega
  have hfl:Bi (.inner ks)=Bg A++(Bi x++Bg C):=by
   simp only[Bi];rw[e,Be];simp only[Bg]
  have hhas:Du k (Bi (.inner ks))=Du k (Bi x):=by rw[hfl,P9,P9,(S8 hlow).2,(J6 hhi).2];simp
  have hdel:C1 k (Bi (.inner ks))=Bg A++(C1 k (Bi x)++Bg C):=by rw[hfl,P2,P2,(S8 hlow).1,(J6 hhi).1]
  simp only[Jg];rw[eg]
  match hr:Jg h x k,ih with
  |none,ih=>exact hhas.trans ih
  |some y,ih=>
   obtain⟨i1,i2,i3⟩:=ih;have hy:Co 3 h y:=by
    rcases i3 with i3|⟨_,_,_,c⟩
    . exact i3.1
    . omega
   have es:ks.set (An ks k) y=A++y::C:=by rw[<-hA,e];simp
   have hkA: ∀z ∈ A,Co 4 h z:=fun z hz=>hk z (by rw[e];simp[hz]);have hkC: ∀z ∈ C,Co 4 h z:=fun z hz=>hk z (by rw[e];simp[hz]);have key: ∀R:List Nd,Bg R=Bg (A++y::C)->(∀z ∈ R,Co 4 h z)->A.length+C.length<=R.length->R.length<=8->Ala lo (h+1) k (.inner ks) (some (Cu R)):=by
    intro R r1 r2 r3 r4;have hf:Bi (Cu R)=C1 k (Bi (.inner ks)):=by
     have:Bi (Cu R)=Bg R:=by
      match R,r3 with
      | [],_=>rfl
      | [z],_=>simp[Cu,Bg]
      |z::w::q,_=>rfl
     rw[this,r1,hdel,Be,<-i2];simp only[Bg]
    refine⟨hhas.trans i1,hf, ?_⟩;by_cases h1:R.length=1
    . obtain⟨z,rfl⟩:=List.length_eq_one_iff.1 h1
      right
      exact⟨h,rfl,r2 z (by simp),by simp at r3;omega⟩
    . left
      rw[El (by omega)];simp only[Co];exact⟨⟨by omega,r4,r2⟩,fun _=>by simp only[Bh];omega⟩
   show Ala lo (h+1) k (.inner ks) (some (Cu (if Bh y<4 then G3 (ks.set (An ks k) y) (An ks k)else ks.set (An ks k) y)));rw[es,<-hA];by_cases h4:Bh y<4
   . rw[if_pos h4];obtain⟨m1,m2,m3,m4⟩:=Ags hy (by have:=(Gg hy).1;omega) hkA hkC (by omega);exact key _ m1 m2 m3 (by omega)
   . rw[if_neg h4];refine key _ rfl (fun z hz=> ?_) (by simp) (by simp;omega);rcases List.mem_append.1 hz with hz|hz
     . exact hkA z hz
     rcases List.mem_cons.1 hz with rfl|hz
     . exact Zo hy (by omega)
     . exact hkC z hz
mutual
def Ms:Nd->Nat
 | .leaf _=>0
 | .inner ks=>htL ks+1
def htL:List Nd->Nat
 | []=>0
 |k::_=>Ms k
end
theorem Mc: ∀{h:Nat} {n:Nd} {lo:Nat},0<lo\/h=0->Co lo h n->Ms n=h
 |0,.leaf es,_,_,_=>by simp[Ms]
 |0,.inner ks,_,_,hn=>absurd hn (by simp[Co])
 |h+1,.leaf es,_,_,hn=>absurd hn (by simp[Co])
 |h+1,.inner ks,lo,h0,hn=>by
  simp only[Co]at hn
  match ks,hn with
  | [],hn=>have:=hn.1;simp at this;omega
  |k::r,hn=>simp only[Ms,htL,Mc (.inl (by omega)) (hn.2.2 k (by simp))]
def Mh:Option (Nat×Nd)->ByteArray->Option (Nat×Nd)×Bool
 |none,_=>(none,false)
 |some (h,n),k=>match Jg h n k with
  |none=>(some (h,n),false)
  |some x=>(if(Bi x).isEmpty then none else some (Ms x,x),true)
theorem Am2 {t:Option (Nat×Nd)} (k:ByteArray) (ht:Pa t):Ba (Mh t k).1=C1 k (Ba t)/\Pa (Mh t k).1/\(Mh t k).2=Du k (Ba t):=by
 match t,ht with
 |none,_=>exact⟨rfl,trivial,rfl⟩
 |some (h,n),⟨hn,ha⟩=>
  obtain⟨l1,l2,l3⟩:=Fb h;have ho:=Te h (k:=k) l2 l3 hn ha
  match hr:Jg h n k,ho with
  |none,ho=>
   have hP:Mh (some (h,n)) k=(some (h,n),false):=by simp only[Mh,hr]
   have hd:C1 k (Bi n)=Bi n:=by
    refine(Nv fun e he=> ?_).1;intro c;have h1:Du k (Bi n)=false:=ho;have h2:Du k (Bi n)=true:=List.any_eq_true.2 ⟨e,he,by rw[c];simp⟩;rw[h1]at h2;cases h2
   rw[hP];exact⟨hd.symm,⟨hn,ha⟩,(show Du k (Bi n)=false from ho).symm⟩
  |some x,⟨h1,h2,h3⟩=>
   have hP:Mh (some (h,n)) k=(if(Bi x).isEmpty then none else some (Ms x,x),true):=by simp only[Mh,hr]
   rw[hP];have hax:Ay (Bi x):=by rw[h2];exact M0 ha
   by_cases he:(Bi x).isEmpty=true
   . rw[if_pos he];refine⟨?_,trivial,h1.symm⟩;show []=C1 k (Bi n);rw[<-h2,List.isEmpty_iff.1 he]
   . rw[if_neg he];refine⟨h2, ?_,h1.symm⟩;show Co (F8 (Ms x)) (Ms x) x/\Ay (Bi x);refine⟨?_,hax⟩;have hpos:0<(Bi x).length:=List.length_pos_iff.2 fun c=>he (by rw[c];rfl);rcases h3 with⟨h3,h4⟩|⟨g,_,h3,_⟩
     . match h,x,h3,h4,hpos with
       |0,.leaf es,h3,h4,hpos=>
        simp only[Ms];exact⟨by unfold F8;rw[if_pos rfl];exact hpos,h3.2⟩
       |h+1,.inner ks,h3,h4,hpos=>
        have e1:F8 (h+1)=2:=by unfold F8;rw[if_neg (by omega)]
        rw[e1]at h3;have e2:=Mc (.inl (by omega)) h3;rw[e2,e1];exact Zo h3 (h4 (by omega))
     . have e2:=Mc (.inl (by omega)) h3;rw[e2];exact Mg (by have:=Fb g;omega) h3
end Go.Proofs.YtkmcjfkokoidcaaGreatDoor
