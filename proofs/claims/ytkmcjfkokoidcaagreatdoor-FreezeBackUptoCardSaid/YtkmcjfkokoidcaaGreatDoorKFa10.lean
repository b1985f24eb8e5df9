/- Parts: utf: digit, unit, paired, refused. Condition: a text of at most 10^9 bytes. -/
import Derived.Test.YtkmcjfkokoidcaaGreatDoorKFa6
import Derived.Test.YtkmcjfkokoidcaaGreatDoorKFa7
set_option maxHeartbeats 20000000
set_option maxRecDepth 100000
namespace Go.Proofs.YtkmcjfkokoidcaaGreatDoor
def C1 (k:ByteArray) (l:List A5):List A5:=l.filter fun e=> !decide (e.1=k)
def Du (k:ByteArray) (l:List A5):Bool:=l.any fun e=>decide (e.1=k)
theorem P4 (k:ByteArray) (a b:List A5):C1 k (a++b)=C1 k a++C1 k b:=List.filter_append ..
theorem Qa (k:ByteArray) (a b:List A5):Du k (a++b)=(Du k a||Du k b):=List.any_append
theorem Nw {k:ByteArray} {l:List A5} (h: ∀e ∈ l,e.1≠k):C1 k l=l/\Du k l=false:=by
 constructor
 . refine List.filter_eq_self.2 fun e he=> ?_;rw[decide_eq_false (h e he)];rfl
 . refine List.any_eq_false.2 fun e he=> ?_;rw[decide_eq_false (h e he)];simp
theorem Ab3 {a b:ByteArray} (h:Dp a b=true):a≠b:=by
 rintro rfl;rw[Ip]at h
 cases h
theorem S9 {k:ByteArray} {l:List A5} (h: ∀e ∈ l,Dp e.1 k=true):C1 k l=l/\Du k l=false:=Nw fun e he=>Ab3 (h e he)
theorem J5 {k:ByteArray} {l:List A5} (h: ∀e ∈ l,Dp k e.1=true):C1 k l=l/\Du k l=false:=Nw fun e he=>(Ab3 (h e he)).symm
theorem Tr {k:ByteArray}: ∀{l:List A5},Ay l->Du k l=true->(C1 k l).length+1=l.length
 | [],_,h=>by simp[Du]at h
 |(a,x)::r,ha,h=>by
  obtain⟨h1,h2⟩:=List.pairwise_cons.1 ha;by_cases e:a=k
  . subst e;have hr:=J5 (k:=a) (l:=r) h1;have:C1 a ((a,x)::r)=C1 a r:=by simp[C1]
    rw[this,hr.1];rfl
  . have h3:Du k r=true:=by simpa[Du,e]using h
    have:C1 k ((a,x)::r)=(a,x)::C1 k r:=by simp[C1,e]
    rw[this,List.length_cons,List.length_cons,Tr h2 h3]
theorem M0 {k:ByteArray} {l:List A5} (h:Ay l):Ay (C1 k l):=List.Pairwise.filter _ h
def Bh:Nd->Nat
 | .leaf es=>es.length
 | .inner ks=>ks.length
theorem Gf {lo h:Nat} {n:Nd} (hn:Co lo h n):lo<=Bh n/\Bh n<=8:=by
 match h,n,hn with
 |0,.leaf es,hn=>exact hn
 |_+1,.inner ks,hn=>simp only[Co]at hn;exact⟨hn.1,hn.2.1⟩
theorem Zp {a b h:Nat} {n:Nd} (hn:Co a h n) (hs:b<=Bh n):Co b h n:=by
 match h,n,hn with
 |0,.leaf es,hn=>exact⟨hs,hn.2⟩
 |_+1,.inner ks,hn=>simp only[Co]at hn ⊢;exact⟨hs,hn.2⟩
def Ic (l r:List A5):Nd×Option Nd:=
 if 4<l.length then(.leaf l.dropLast,some (.leaf (l.drop (l.length - 1)++r)))else if 4<r.length then(.leaf (l++r.take 1),some (.leaf (r.drop 1)))else(.leaf (l++r),none)
def Ie (l r:List Nd):Nd×Option Nd:=
 if 4<l.length then(Cu l.dropLast,some (Cu (l.drop (l.length - 1)++r)))else if 4<r.length then(Cu (l++r.take 1),some (Cu (r.drop 1)))else(Cu (l++r),none)
def Ft:Nd->Nd->Nd×Option Nd
 | .leaf a,.leaf b=>Ic a b
 | .inner a,.inner b=>Ie a b
 |a,_=>(a,none)
theorem Aa7 {α:Type} (l:List α):l.dropLast++l.drop (l.length - 1)=l:=by rw[List.dropLast_eq_take,List.take_append_drop]
theorem Alc {a b:List A5} (ha:3<=a.length/\a.length<=8) (hb:3<=b.length/\b.length<=8) (hs:7<=a.length+b.length) (h3:a.length=3\/b.length=3):
 W5 (Ic a b)=a++b/\Co 4 0 (Ic a b).1/\ ∀m,(Ic a b).2=some m->Co 4 0 m:=by
 unfold Ic;by_cases h1:4<a.length
 . rw[if_pos h1];refine⟨?_,⟨by rw[List.length_dropLast];omega,by rw[List.length_dropLast];omega⟩,fun m e=> ?_⟩
   . simp only[W5,Option.toList,Jp,Bi];rw[<-List.append_assoc,Aa7]
   . cases e
     exact⟨by rw[List.length_append,List.length_drop];omega,by rw[List.length_append,List.length_drop];omega⟩
 rw[if_neg h1];by_cases h2:4<b.length
 . rw[if_pos h2];refine⟨?_,⟨by rw[List.length_append,List.length_take];omega,by rw[List.length_append,List.length_take];omega⟩,fun m e=> ?_⟩
   . simp only[W5,Option.toList,Jp,Bi];rw[List.append_assoc,List.take_append_drop]
   . cases e
     exact⟨by rw[List.length_drop];omega,by rw[List.length_drop];omega⟩
 . rw[if_neg h2];refine⟨by simp[W5,Bi,Bg],⟨by rw[List.length_append];omega,by rw[List.length_append];omega⟩,fun m e=>by cases e⟩
theorem Ald {a b:List Nd} {h:Nat} (ha:3<=a.length/\a.length<=8) (hb:3<=b.length/\b.length<=8) (hs:7<=a.length+b.length) (h3:a.length=3\/b.length=3) (ka: ∀x ∈ a,Co 4 h x) (kb: ∀x ∈ b,Co 4 h x):
 W5 (Ie a b)=Bg a++Bg b/\Co 4 (h+1) (Ie a b).1/\ ∀m,(Ie a b).2=some m->Co 4 (h+1) m:=by
 unfold Ie;by_cases h1:4<a.length
 . rw[if_pos h1,El (by rw[List.length_dropLast];omega),El (by rw[List.length_append,List.length_drop];omega)];refine⟨?_,⟨by rw[List.length_dropLast];omega,by rw[List.length_dropLast];omega,fun x hx=>ka x (List.dropLast_subset _ hx)⟩,fun m e=> ?_⟩
   . simp only[W5,Option.toList,Jp,Bi];rw[Be,<-List.append_assoc,<-Be,Aa7]
   . cases e
     refine⟨by rw[List.length_append,List.length_drop];omega,by rw[List.length_append,List.length_drop];omega,fun x hx=> ?_⟩;rcases List.mem_append.1 hx with hx|hx
     . exact ka x (List.mem_of_mem_drop hx)
     . exact kb x hx
 rw[if_neg h1];by_cases h2:4<b.length
 . rw[if_pos h2,El (by rw[List.length_append];omega),El (by rw[List.length_drop];omega)];refine⟨?_,⟨by rw[List.length_append,List.length_take];omega,by rw[List.length_append,List.length_take];omega,fun x hx=> ?_⟩,fun m e=> ?_⟩
   . simp only[W5,Option.toList,Jp,Bi];rw[Be,List.append_assoc,<-Be,List.take_append_drop]
   . rcases List.mem_append.1 hx with hx|hx
     . exact ka x hx
     . exact kb x (List.mem_of_mem_take hx)
   . cases e
     exact⟨by rw[List.length_drop];omega,by rw[List.length_drop];omega,fun x hx=>kb x (List.mem_of_mem_drop hx)⟩
 . rw[if_neg h2,El (by rw[List.length_append];omega)];refine⟨by simp[W5,Bi,Bg,Be],⟨by rw[List.length_append];omega,by rw[List.length_append];omega,fun x hx=> ?_⟩,fun m e=>by cases e⟩;rcases List.mem_append.1 hx with hx|hx
   . exact ka x hx
   . exact kb x hx
theorem Ale {h:Nat} {a b:Nd} (ha:Co 3 h a) (hb:Co 3 h b) (hs:7<=Bh a+Bh b) (h3:Bh a=3\/Bh b=3):
 W5 (Ft a b)=Bi a++Bi b/\Co 4 h (Ft a b).1/\ ∀m,(Ft a b).2=some m->Co 4 h m:=by
 match h,a,b,ha,hb with
 |0,.leaf a,.leaf b,ha,hb=>exact Alc ha hb hs h3
 |h+1,.inner a,.inner b,ha,hb=>
  simp only[Co]at ha hb;exact Ald ⟨ha.1,ha.2.1⟩ ⟨hb.1,hb.2.1⟩ hs h3 ha.2.2 hb.2.2
def G2 (ks:List Nd) (i:Nat):List Nd:=
 ks.take (i - 1)++(Ft (ks.getD (i - 1) (.leaf [])) (ks.getD (i - 1+1) (.leaf []))).1::((Ft (ks.getD (i - 1) (.leaf [])) (ks.getD (i - 1+1) (.leaf []))).2.toList++ks.drop (i - 1+2))
theorem Ags {A C:List Nd} {a b:Nd} {h:Nat} (ha:Co 3 h a) (hb:Co 3 h b) (hs:7<=Bh a+Bh b) (h3:Bh a=3\/Bh b=3) (hA: ∀y ∈ A,Co 4 h y) (hC: ∀y ∈ C,Co 4 h y):
 ∀R,R=A++(Ft a b).1::((Ft a b).2.toList++C)->Bg R=Bg (A++a::b::C)/\(∀y ∈ R,Co 4 h y)/\A.length+C.length+1<=R.length/\R.length<=A.length+C.length+2:=by
 rintro R rfl;obtain⟨p1,p2,p3⟩:=Ale ha hb hs h3;have hl:(Ft a b).2.toList.length<=1:=by cases (Ft a b).2<;>simp
 refine⟨?_,fun y hy=> ?_,by simp;omega,by simp;omega⟩
 . rw[Be,Be];simp only[Bg];rw[Be,<-List.append_assoc (Bi (Ft a b).1),<-List.append_assoc (Bi a),<-p1];rfl
 . rcases List.mem_append.1 hy with hy|hy
   . exact hA y hy
   rcases List.mem_cons.1 hy with rfl|hy
   . exact p2
   rcases List.mem_append.1 hy with hy|hy
   . exact p3 y (by simpa using hy)
   . exact hC y hy
theorem Agt {A C:List Nd} {x:Nd} {h:Nat} (hx:Co 3 h x) (hs:Bh x=3) (hA: ∀y ∈ A,Co 4 h y) (hC: ∀y ∈ C,Co 4 h y) (h1:1<=A.length+C.length):
 Bg (G2 (A++x::C) A.length)=Bg (A++x::C)/\(∀y ∈ G2 (A++x::C) A.length,Co 4 h y)/\A.length+C.length<=(G2 (A++x::C) A.length).length/\(G2 (A++x::C) A.length).length<=A.length+C.length+1:=by
 rcases List.eq_nil_or_concat A with rfl|⟨B,y,eA⟩
 . match C,h1 with
   |y::D,_=>
    have hy:=hC y (by simp);have:=Ags (A:= []) (C:=D) hx (Mg (by omega) hy) (by have:=(Gf hy).1;omega) (.inl hs) (by simp) (fun z hz=>hC z (by simp[hz])) (G2 ([]++x::y::D) 0) (by simp[G2]);obtain⟨m1,m2,m3,m4⟩:=this;refine⟨m1,m2, ?_, ?_⟩
    . simpa using m3
    . simpa using m4
 . rw[List.concat_eq_append]at eA;subst eA;have hy:=hA y (by simp);have e:G2 (B++ [y]++x::C) (B++ [y]).length=B++(Ft y x).1::((Ft y x).2.toList++C):=by
    have e0:(B++ [y]).length - 1=B.length:=by simp
    have e1:B++ [y]++x::C=B++y::x::C:=by simp
    unfold G2;rw[e0,e1];have g1:(B++y::x::C).getD B.length (.leaf [])=y:=by simp
    have g2:(B++y::x::C).getD (B.length+1) (.leaf [])=x:=by
     rw[List.getD_eq_getElem?_getD,List.getElem?_append_right (by omega)];simp
    have g3:(B++y::x::C).drop (B.length+2)=C:=by
     simp[List.drop_append]
    rw[g1,g2,g3,List.take_left]
   have:=Ags (A:=B) (C:=C) (Mg (by omega) hy) hx (by have:=(Gf hy).1;omega) (.inr hs) (fun z hz=>hA z (by simp[hz])) hC _ e;obtain⟨m1,m2,m3,m4⟩:=this;refine⟨?_,m2, ?_, ?_⟩
   . rw[m1];simp
   . have:(B++ [y]).length=B.length+1:=by simp
     omega
   . have:(B++ [y]).length=B.length+1:=by simp
     omega
def Jf:Nat->Nd->ByteArray->Option Nd
 |0,n,k=>if Du k (Bi n)then some (.leaf (C1 k (Bi n)))else none
 |_+1,.leaf es,k=>if Du k es then some (.leaf (C1 k es))else none
 |h+1,.inner ks,k=>match Jf h (ks.getD (An ks k) (.leaf [])) k with
  |none=>none
  |some x=>some (Cu (if Bh x<4 then G2 (ks.set (An ks k) x) (An ks k)else ks.set (An ks k) x))
def Alb (lo h:Nat) (k:ByteArray) (n:Nd):Option Nd->Prop
 |none=>Du k (Bi n)=false
 |some x=>Du k (Bi n)=true/\Bi x=C1 k (Bi n)/\((Co (lo - 1) h x/\(0<h->2<=Bh x))\/ ∃g,h=g+1/\Co 4 g x/\lo=2)
theorem Tf: ∀(h:Nat) {n:Nd} {lo:Nat} {k:ByteArray},0<lo->(0<h->2<=lo)->Co lo h n->Ay (Bi n)->Alb lo h k n (Jf h n k)
 |0,.leaf es,lo,k,h0,_,hn,ha=>by
  simp only[Jf];by_cases hk:Du k (Bi (.leaf es))=true
  . rw[if_pos hk];have hl:=Tr (k:=k) (l:=es) ha hk;have hl':(C1 k (Bi (.leaf es))).length+1=es.length:=hl;refine⟨hk,rfl,.inl ⟨⟨?_, ?_⟩,fun c=>absurd c (by omega)⟩⟩
    . have:=hn.1;omega
    . have:=hn.2;omega
  . rw[if_neg hk];exact(by simpa using hk:Du k (Bi (.leaf es))=false)
 |0,.inner ks,_,_,_,_,hn,_=>absurd hn (by simp[Co])
 |h+1,.leaf es,_,_,_,_,hn,_=>absurd hn (by simp[Co])
 |h+1,.inner ks,lo,k,h0,hlo2,hn,ha=>by
  simp only[Co]at hn;obtain⟨h2,h8,hk⟩:=hn;have hlo:=hlo2 (by omega);have hne:ks≠ []:=by intro e;rw[e]at h2;simp at h2;omega
  obtain⟨A,x,C,e,hA,hlow,hhi⟩:=H8 (k:=k) hne hk ha;have hx:Co 4 h x:=hk x (by rw[e];simp);have hax:Ay (Bi x):=by
   have ha':Ay (Bg ks):=ha;rw[e,Be]at ha';have:=(List.pairwise_append.1 ha').2.1;simp only[Bg]at this;exact(List.pairwise_append.1 this).1
  have ih:=Tf h (k:=k) (lo:=4) (by omega) (fun _=>by omega) hx hax;have eg:ks.getD (An ks k) (.leaf [])=x:=by rw[<-hA,e];simp
  have hlen:ks.length=A.length+1+C.length:=by rw[e];simp;omega
  have hfl:Bi (.inner ks)=Bg A++(Bi x++Bg C):=by
   simp only[Bi];rw[e,Be];simp only[Bg]
  have hhas:Du k (Bi (.inner ks))=Du k (Bi x):=by rw[hfl,Qa,Qa,(S9 hlow).2,(J5 hhi).2];simp
  have hdel:C1 k (Bi (.inner ks))=Bg A++(C1 k (Bi x)++Bg C):=by rw[hfl,P4,P4,(S9 hlow).1,(J5 hhi).1]
  simp only[Jf];rw[eg]
  match hr:Jf h x k,ih with
  |none,ih=>exact hhas.trans ih
  |some y,ih=>
   obtain⟨i1,i2,i3⟩:=ih;have hy:Co 3 h y:=by
    rcases i3 with i3|⟨_,_,_,c⟩
    . exact i3.1
    . omega
   have es:ks.set (An ks k) y=A++y::C:=by rw[<-hA,e];simp
   have hkA: ∀z ∈ A,Co 4 h z:=fun z hz=>hk z (by rw[e];simp[hz]);have hkC: ∀z ∈ C,Co 4 h z:=fun z hz=>hk z (by rw[e];simp[hz]);have key: ∀R:List Nd,Bg R=Bg (A++y::C)->(∀z ∈ R,Co 4 h z)->A.length+C.length<=R.length->R.length<=8->Alb lo (h+1) k (.inner ks) (some (Cu R)):=by
    intro R r1 r2 r3 r4;have hf:Bi (Cu R)=C1 k (Bi (.inner ks)):=by
     have:Bi (Cu R)=Bg R:=by
      match R,r3 with
      | [],_=>rfl
      | [z],_=>simp[Cu,Bg]
      |z::w::q,_=>rfl
     rw[this,r1,hdel,Be,<-i2];simp only[Bg]
    refine⟨hhas.trans i1,hf, ?_⟩;by_cases h1:R.length=1
    . obtain⟨z,rfl⟩:=List.length_eq_one_iff.1 h1
      right
      exact⟨h,rfl,r2 z (by simp),by simp at r3;omega⟩
    . left
      rw[El (by omega)];simp only[Co];exact⟨⟨by omega,r4,r2⟩,fun _=>by simp only[Bh];omega⟩
   show Alb lo (h+1) k (.inner ks) (some (Cu (if Bh y<4 then G2 (ks.set (An ks k) y) (An ks k)else ks.set (An ks k) y)));rw[es,<-hA];by_cases h4:Bh y<4
   . rw[if_pos h4];obtain⟨m1,m2,m3,m4⟩:=Agt hy (by have:=(Gf hy).1;omega) hkA hkC (by omega);exact key _ m1 m2 m3 (by omega)
   . rw[if_neg h4];refine key _ rfl (fun z hz=> ?_) (by simp) (by simp;omega);rcases List.mem_append.1 hz with hz|hz
     . exact hkA z hz
     rcases List.mem_cons.1 hz with rfl|hz
     . exact Zp hy (by omega)
     . exact hkC z hz
mutual
def Ms:Nd->Nat
 | .leaf _=>0
 | .inner ks=>htL ks+1
def htL:List Nd->Nat
 | []=>0
 |k::_=>Ms k
end
theorem Mc: ∀{h:Nat} {n:Nd} {lo:Nat},0<lo\/h=0->Co lo h n->Ms n=h
 |0,.leaf es,_,_,_=>by simp[Ms]
 |0,.inner ks,_,_,hn=>absurd hn (by simp[Co])
 |h+1,.leaf es,_,_,hn=>absurd hn (by simp[Co])
 |h+1,.inner ks,lo,h0,hn=>by
  simp only[Co]at hn
  match ks,hn with
  | [],hn=>have:=hn.1;simp at this;omega
  |k::r,hn=>simp only[Ms,htL,Mc (.inl (by omega)) (hn.2.2 k (by simp))]
def Mh:Option (Nat×Nd)->ByteArray->Option (Nat×Nd)×Bool
 |none,_=>(none,false)
 |some (h,n),k=>match Jf h n k with
  |none=>(some (h,n),false)
  |some x=>(if(Bi x).isEmpty then none else some (Ms x,x),true)
theorem Am3 {t:Option (Nat×Nd)} (k:ByteArray) (ht:Pb t):Ba (Mh t k).1=C1 k (Ba t)/\Pb (Mh t k).1/\(Mh t k).2=Du k (Ba t):=by
 match t,ht with
 |none,_=>exact⟨rfl,trivial,rfl⟩
 |some (h,n),⟨hn,ha⟩=>
  obtain⟨l1,l2,l3⟩:=Fb h;have ho:=Tf h (k:=k) l2 l3 hn ha
  match hr:Jf h n k,ho with
  |none,ho=>
   have hP:Mh (some (h,n)) k=(some (h,n),false):=by simp only[Mh,hr]
   have hd:C1 k (Bi n)=Bi n:=by
    refine(Nw fun e he=> ?_).1;intro c;have h1:Du k (Bi n)=false:=ho;have h2:Du k (Bi n)=true:=List.any_eq_true.2 ⟨e,he,by rw[c];simp⟩;rw[h1]at h2;cases h2
   rw[hP];exact⟨hd.symm,⟨hn,ha⟩,(show Du k (Bi n)=false from ho).symm⟩
  |some x,⟨h1,h2,h3⟩=>
   have hP:Mh (some (h,n)) k=(if(Bi x).isEmpty then none else some (Ms x,x),true):=by simp only[Mh,hr]
   rw[hP];have hax:Ay (Bi x):=by rw[h2];exact M0 ha
   by_cases he:(Bi x).isEmpty=true
   . rw[if_pos he];refine⟨?_,trivial,h1.symm⟩;show []=C1 k (Bi n);rw[<-h2,List.isEmpty_iff.1 he]
   . rw[if_neg he];refine⟨h2, ?_,h1.symm⟩;show Co (F7 (Ms x)) (Ms x) x/\Ay (Bi x);refine⟨?_,hax⟩;have hpos:0<(Bi x).length:=List.length_pos_iff.2 fun c=>he (by rw[c];rfl);rcases h3 with⟨h3,h4⟩|⟨g,_,h3,_⟩
     . match h,x,h3,h4,hpos with
       |0,.leaf es,h3,h4,hpos=>
        simp only[Ms];exact⟨by unfold F7;rw[if_pos rfl];exact hpos,h3.2⟩
       |h+1,.inner ks,h3,h4,hpos=>
        have e1:F7 (h+1)=2:=by unfold F7;rw[if_neg (by omega)]
        rw[e1]at h3;have e2:=Mc (.inl (by omega)) h3;rw[e2,e1];exact Zp h3 (h4 (by omega))
     . have e2:=Mc (.inl (by omega)) h3;rw[e2];exact Mg (by have:=Fb g;omega) h3
end Go.Proofs.YtkmcjfkokoidcaaGreatDoor
namespace Go.Proofs.YtkmcjfkokoidcaaGreatDoor
open Go Go.RowKit
def Ak (w:World) (g o:Nat):List Value->World
 | []=>w
 |v::r=>Ak (w.setCell ⟨g,o,none⟩ v) g (o+1) r
def Pc (cs:Array Value) (o:Nat):List Value->Array Value
 | []=>cs
 |v::r=>Pc (cs.setIfInBounds o v) (o+1) r
theorem Ca: ∀(vs:List Value) (w:World) (g o:Nat),(Ak w g o vs).heap.size=w.heap.size
 | [],_,_,_=>rfl
 |v::r,w,g,o=>by simp only[Ak];rw[Ca r];simp[World.setCell]
theorem A0: ∀(vs:List Value) (w:World) (g o c:Nat),c≠g->(Ak w g o vs).heap[c]? =w.heap[c]?
 | [],_,_,_,_,_=>rfl
 |v::r,w,g,o,c,h=>by
  simp only[Ak];rw[A0 r _ _ _ _ h];simp only[World.setCell,Array.getElem?_modify];rw[if_neg (fun e=>h e.symm)]
theorem Kh: ∀(vs:List Value) {w:World} {g o:Nat} {cs:Array Value} {t:TypeId},w.heap[g]? =some (.cells cs t (0,0))->(Ak w g o vs).heap[g]? =some (.cells (Pc cs o vs) t (0,0))
 | [],_,_,_,_,_,h=>h
 |v::r,w,g,o,cs,t,h=>by
  simp only[Ak,Pc];exact Kh r (by simp[World.setCell,Array.getElem?_modify,h])
theorem A4 {B:Nat} {a:World}: ∀(vs:List Value) {w:World} {g o:Nat},Below B a w->B<=g->Below B a (Ak w g o vs)
 | [],_,_,_,h,_=>h
 |v::r,w,g,o,h,hg=>by
  simp only[Ak];exact A4 r (h.setCell hg _) hg
theorem J1: ∀(vs:List Value) (cs:Array Value) (o:Nat),(Pc cs o vs).size=cs.size
 | [],_,_=>rfl
 |v::r,cs,o=>by simp only[Pc];rw[J1 r];simp
theorem Uu: ∀(vs:List Value) (cs:Array Value) (o i:Nat),o+vs.length<=cs.size->(Pc cs o vs)[i]? =if o<=i/\i<o+vs.length then vs[i - o]? else cs[i]?
 | [],cs,o,i,_=>by
   simp only[Pc,List.length_nil];rw[if_neg (by omega)]
 |v::r,cs,o,i,h=>by
  simp only[List.length_cons]at h;simp only[Pc];rw[Uu r _ _ _ (by simp;omega)];by_cases h1:o+1<=i/\i<o+1+r.length
  . rw[if_pos h1,if_pos ⟨by omega,by simp only[List.length_cons];omega⟩,show i - o=(i - (o+1))+1 from by omega,List.getElem?_cons_succ]
  . rw[if_neg h1];by_cases h2:i=o
    . subst h2;rw[if_pos ⟨Nat.le_refl _,by simp⟩];simp only[Nat.sub_self,List.getElem?_cons_zero];rw[Array.getElem?_setIfInBounds_self_of_lt (by omega)]
    . rw[if_neg (by simp only[List.length_cons];omega),Array.getElem?_setIfInBounds_ne (by omega)]
def E4 (b g:Nat) (t:TypeId) (s N:Nat) (wr:World) (l:List D):Prop:=
 b<=g/\l.length<=N/\(∀d ∈ l,d.cells=s)/\ ∃(cs:Array Value) (ns:List Value),wr.heap[g]? =some (.cells cs t (0,0))/\cs.size=N*s/\(∀(j:Nat) (u:Value),ns[j]? =some u->cs[j]? =some u)/\
  ∀w'':World,wr.heap.size<=w''.heap.size->(∀p:Addr,b<=p.block->p.block<wr.heap.size->p.block≠g->w''.cell? p=wr.cell? p)->Af w'' wr.heap.size l ns
theorem E4.start {b g:Nat} {t:TypeId} {s N:Nat} {wr:World} {cs:Array Value} (hb:b<=g) (hg:wr.heap[g]? =some (.cells cs t (0,0))) (hs:cs.size=N*s):E4 b g t s N wr []:=
 ⟨hb,Nat.zero_le _,fun d hd=>(by cases hd),cs, [],hg,hs,fun j u h=>(by simp at h),fun _ _ _=>rfl⟩
theorem E4.lt {b g:Nat} {t:TypeId} {s N:Nat} {wr:World} {l:List D} (h:E4 b g t s N wr l):g<wr.heap.size:=by
 obtain⟨_,_,_,cs,ns,h4,_⟩:=h;exact(Array.getElem?_eq_some_iff.1 h4).1
theorem E4.cell {b g:Nat} {t:TypeId} {s N:Nat} {wr:World} {l:List D} (h:E4 b g t s N wr l):(∀j,j<N*s-> ∃u,wr.cell? ⟨g,j,none⟩=some u)/\ ∀j,wr.frozen? ⟨g,j,none⟩=false:=by
 obtain⟨_,_,_,cs,ns,h4,h5,_⟩:=h;refine⟨fun j hj=> ?_,fun j=> ?_⟩
 . exact⟨cs[j],by rw[cell_of_row wr g j cs t (0,0) h4];exact Array.getElem?_eq_getElem (by omega)⟩
 . simp[World.frozen?,h4]
theorem E4.keep {b g:Nat} {t:TypeId} {s N:Nat} {wr w':World} {l:List D} (h:E4 b g t s N wr l) (hs:wr.heap.size<=w'.heap.size) (hk: ∀i,b<=i->i<wr.heap.size->w'.heap[i]? =wr.heap[i]?):E4 b g t s N w' l:=by
 have hlt:=h.lt;obtain⟨h1,h2,h3,cs,ns,h4,h5,h6,h7⟩:=h;exact⟨h1,h2,h3,cs,ns,(hk g h1 hlt).trans h4,h5,h6,fun w'' k1 k2=>Af.more (h7 w'' (by omega) (fun p p1 p2 p3=>(k2 p p1 (by omega) p3).trans (World.cell?_of_block (hk p.block p1 p2)))) hs⟩
theorem E4.below {b g:Nat} {t:TypeId} {s N:Nat} {wr w':World} {l:List D} (h:E4 b g t s N wr l) (hb:Below wr.heap.size wr w'):E4 b g t s N w' l:=h.keep hb.size fun i _ hi=>hb.block i hi
theorem E4.step {b g:Nat} {t:TypeId} {s N:Nat} {wr w4:World} {l:List D} {d:D} {cs':List Value} (h:E4 b g t s N wr l) (hl:l.length<N) (hd:d.cells=s) (hx:Ch wr.heap.size w4 d cs') (h4:Below wr.heap.size wr w4):
 E4 b g t s N (Ak w4 g (l.length*s) cs') (l++ [d]):=by
 have hlt:=h.lt;have h':=h.below h4;obtain⟨h1,h2,h3,cs,ns,k4,h5,h6,h7⟩:=h';have hcl:cs'.length=s:=hx.now.len.1.trans hd;have hnl:ns.length=l.length*s:=by
  have hA:=h7 w4 (Nat.le_refl _) (fun _ _ _ _=>rfl);rw[hA.len.1,Fj h3]
 have hN:l.length*s+s<=N*s:=by
  have:=Nat.mul_le_mul_right s (show l.length+1<=N by omega);rw[Nat.add_mul,Nat.one_mul]at this;exact this
 have hsz:=h4.size;refine⟨h1,by rw[List.length_append,List.length_cons,List.length_nil];omega, ?_,Pc cs (l.length*s) cs',ns++cs',Kh cs' k4,by rw[J1];exact h5, ?_, ?_⟩
 . intro x hx';rcases List.mem_append.1 hx' with hx'|hx'
   . exact h3 x hx'
   . simp only[List.mem_cons,List.not_mem_nil,or_false]at hx';rw[hx'];exact hd
 . intro j u hj;rw[Uu cs' cs (l.length*s) j (by omega)];by_cases hjn:j<ns.length
   . rw[List.getElem?_append_left hjn]at hj;rw[if_neg (by omega)];exact h6 j u hj
   . rw[List.getElem?_append_right (by omega)]at hj;have:=(List.getElem?_eq_some_iff.1 hj).1;rw[if_pos ⟨by omega,by omega⟩,<-hnl];exact hj
 . intro w'' k1 k2;rw[Ca]at k1 k2 ⊢;have hfar: ∀p:Addr,b<=p.block->p.block<w4.heap.size->p.block≠g->w''.cell? p=w4.cell? p:=fun p p1 p2 p3=>(k2 p p1 p2 p3).trans (World.cell?_of_block (A0 cs' w4 g _ _ p3));exact(h7 w'' k1 hfar).snoc (hx w'' k1 (fun p p1 p2=>hfar p (by omega) p2 (by omega)))
theorem E4.close {b g:Nat} {t:TypeId} {s:Nat} {wr:World} {l:List D} (h:E4 b g t s l.length wr l) (c:Nat):Ch b wr (.row s l) [.slice (some ⟨g,0,none⟩) l.length c]:=by
 have hlt:=h.lt;obtain⟨h1,h2,h3,cs,ns,h4,h5,h6,h7⟩:=h;intro w'' k1 k2;refine⟨_,c,rfl,h3,ns,h7 w'' k1 (fun p p1 p2 _=>k2 p p1 p2),.inr ⟨g,0,rfl,hlt,fun j u hu=> ?_⟩⟩;rw[k2 _ h1 hlt,Nat.zero_add,cell_of_row wr g j cs t (0,0) h4];exact h6 j u hu
theorem Amh {c:UInt8} {d:Nat} (h:Vl c=some d) (w:World):Calls Tryz.prog 328 #[.int .u8 c.toNat] w fun e w'=>e=.returned (.tuple #[.int .i32 d,.bool true])/\w=w':=by
 have hcl:=Dr c;unfold Vl at h
 split at h
 . rename_i hr;obtain⟨h1,h2⟩:=hr;have e:(d:Int)=(c.toNat:Int) - 48:=by have:=Option.some.inj h;omega
   have l1:(48:Int)<=(c.toNat:Int):=by omega
   have l2:(c.toNat:Int)<=57:=by omega
   rw[e];clear h e h1 h2;go_enter Tryz.func328,Tryz.ntmps328;go_wp2;go_ret2;exact⟨rfl,rfl⟩
 split at h
 . rename_i hn hr;obtain⟨h1,h2⟩:=hr;have e:(d:Int)=(c.toNat:Int) - 97+10:=by have:=Option.some.inj h;omega
   have l0: ¬((c.toNat:Int)<=57):=by omega
   have l1:(97:Int)<=(c.toNat:Int):=by omega
   have l2:(c.toNat:Int)<=102:=by omega
   rw[e];clear h e h1 h2 hn;go_enter Tryz.func328,Tryz.ntmps328;go_wp2;go_ret2;exact⟨rfl,rfl⟩
 split at h
 . rename_i hn1 hn hr;obtain⟨h1,h2⟩:=hr;have e:(d:Int)=(c.toNat:Int) - 65+10:=by have:=Option.some.inj h;omega
   have l0: ¬((c.toNat:Int)<=57):=by omega
   have l3: ¬((97:Int)<=(c.toNat:Int)):=by omega
   have l1:(65:Int)<=(c.toNat:Int):=by omega
   have l2:(c.toNat:Int)<=70:=by omega
   rw[e];clear h e h1 h2 hn hn1;go_enter Tryz.func328,Tryz.ntmps328;go_wp2;go_ret2;exact⟨rfl,rfl⟩
 . cases h
theorem An4 {c:UInt8} (h:Vl c=none) (w:World):Calls Tryz.prog 328 #[.int .u8 c.toNat] w fun e w'=>e=.returned (.tuple #[.int .i32 0,.bool false])/\w=w':=by
 have hcl:=Dr c;unfold Vl at h
 split at h
 . cases h
 split at h
 . cases h
 split at h
 . cases h
 rename_i h1 h2 h3;by_cases a1:(48:Int)<=(c.toNat:Int)<;>by_cases a2:(c.toNat:Int)<=57<;>by_cases a3:(97:Int)<=(c.toNat:Int)<;>by_cases a4:(c.toNat:Int)<=102<;>by_cases a5:(65:Int)<=(c.toNat:Int)<;>by_cases a6:(c.toNat:Int)<=70
 all_goals first|(exfalso;omega)|(clear h h1 h2 h3;go_enter Tryz.func328,Tryz.ntmps328;go_wp2;go_ret2;exact⟨rfl,rfl⟩)
theorem Wa (c:UInt8) (w:World):Calls Tryz.prog 290 #[.int .u8 c.toNat] w fun e w'=>e=.returned (.int .i64 (if c.toNat<32 then 4 else 3))/\w=w':=by
 have hcl:=Dr c;by_cases h:c.toNat<32
 . rw[if_pos h];have h':(c.toNat:Int)<32:=by omega
   clear h;go_enter Tryz.func290,Tryz.ntmps290;go_wp2;go_ret;exact⟨rfl,rfl⟩
 . rw[if_neg h];have h': ¬((c.toNat:Int)<32):=by omega
   clear h;go_enter Tryz.func290,Tryz.ntmps290;go_wp2;go_ret;exact⟨rfl,rfl⟩
theorem Xm (a:Nat) (ha:a<2147483648):(BitVec.ofInt 32 (a:Int)).toNat=a:=by
 rw[BitVec.ofInt_natCast,BitVec.toNat_ofNat];exact Nat.mod_eq_of_lt (by omega)
theorem Apr {n d:Nat} (hn:n<4096) (hd:d<16):bits .or .i32 ((n:Int)*16) (d:Int)=((16*n+d:Nat):Int):=by
 have e:(n:Int)*16=((n*16:Nat):Int):=by omega
 have h:n*16 ||| d=n*16+d:=by
  have:=Nat.shiftLeft_add_eq_or_of_lt (i:=4) (b:=d) (by omega) n;rw[Nat.shiftLeft_eq]at this;exact this.symm
 rw[e];show IntKind.i32.wrap ((BitVec.ofInt 32 ((n*16:Nat):Int) ||| BitVec.ofInt 32 (d:Int)).toNat:Int)=_;rw[BitVec.toNat_or,Xm _ (by omega),Xm _ (by omega),h,IntKind.wrap_i32];omega
def Adf (u:Option Nat):Value:=match u with
 |some n=> .tuple #[.int .i32 n,.bool true]
 |none=> .tuple #[.int .i32 0,.bool false]
theorem Vc (t:ByteArray) (w:World) (hs:t.size<=1000000000):Calls Tryz.prog 314 #[.string t] w fun e w'=>e=.returned (Adf (F5 t.data.toList))/\w=w':=by
 have hlen:=Al t;by_cases h6:t.size<6
 . have e:F5 t.data.toList=none:=by unfold F5;rw[if_pos (by omega)]
   rw[e];have l:(t.size:Int)<6:=by omega
   clear e hlen;go_enter Tryz.func314,Tryz.ntmps314;go_wp2;go_ret2;exact⟨rfl,rfl⟩
 have l6: ¬((t.size:Int)<6):=by omega
 have q0:0<t.size:=by omega
 have q1:1<t.size:=by omega
 obtain⟨a,ha⟩: ∃a,t[0]=a:=⟨_,rfl⟩;obtain⟨b,hb⟩: ∃b,t[1]=b:=⟨_,rfl⟩;have ga:t.data.toList[0]? =some a:=by rw[Dx t q0,ha]
 have gb:t.data.toList[1]? =some b:=by rw[Dx t q1,hb]
 have hal:=Dr a;have hbl:=Dr b;have ne: ∀(c:UInt8) (n:Nat),n<256->c≠UInt8.ofNat n->((c.toNat:Int)==(n:Int))=false:=fun c n hn h=>by rw[Pz hn];simpa using h
 by_cases h92:a=92;rotate_left
 . have e:F5 t.data.toList=none:=by unfold F5;rw[if_pos];right;left;rw[ga];simpa using h92
   have e1:=ne a 92 (by decide) h92;rw[e];clear e hlen ga gb ne h92 h6;go_enter Tryz.func314,Tryz.ntmps314;go_wp2;go_ret2;exact⟨rfl,rfl⟩
 by_cases h117:b=117;rotate_left
 . have e:F5 t.data.toList=none:=by unfold F5;rw[if_pos];right;right;rw[gb];simpa using h117
   have e1:=ne b 117 (by decide) h117;rw[e];subst h92;clear e hlen ga gb ne h117 h6;go_enter Tryz.func314,Tryz.ntmps314;go_wp2;go_ret2;exact⟨rfl,rfl⟩
 subst h92 h117;have e:F5 t.data.toList=Mr (t.data.toList.drop 2) 4 0:=by
  unfold F5;rw[if_neg];rw[ga,gb];simp;omega
 rw[e];obtain⟨F,hF⟩: ∃F,Mr (t.data.toList.drop 2) 4 0=F:=⟨_,rfl⟩;rw[hF];have H0:=qz hF;clear e hF ga gb ne hlen;go_enter Tryz.func314,Tryz.ntmps314;go_wp2
 go_loop [4,5] (fun x i=> ∃k n:Nat,2<=k/\k<=6/\i=.int .i64 k/\x=.int .i32 n/\n<16 ^ (k - 2)/\Hid (Mr (t.data.toList.drop k) (6 - k) n=F)) (fun _ i=>6 - (intOf i).toNat)
 case atStart=>exact⟨2,0,by omega,by omega,rfl,rfl,by decide,H0⟩
 case round=>
  obtain⟨k,n,hk2,hk6,rfl,rfl,hn,hf⟩:=hrel;clear H0;by_cases hlt:k<6
  . have hkt:k<t.size:=by omega
    obtain⟨c,hc⟩: ∃c,t[k]=c:=⟨_,rfl⟩;have hg:t.data.toList[k]? =some c:=by rw[Dx t hkt,hc]
    have hcl:=Dr c;have hn':n<4096:=by
     have:16 ^ (k - 2)<=16 ^ 3:=Nat.pow_le_pow_right (by decide) (by omega);omega
    have hf':=hf.out;rw[Iv hg,show 6 - k=(6 - (k+1))+1 from by omega]at hf';simp only[Mr]at hf'
    cases hd:Vl c with
    |none=>
     rw[hd]at hf';subst hf';have HD:=qz (fun W=>An4 hd W);clear hf hd hg;go_wp2_with (fail);(with_reducible refine(HD.out _).mono ?_);rintro e w1 ⟨rfl,rfl⟩;go_wp2;go_ret2;exact⟨rfl,rfl⟩
    |some d=>
     rw[hd]at hf';simp only at hf';have HD:=qz (fun W=>Amh hd W);have hd16:=Agg hd;have HF:=qz hf';have hpow:16*n+d<16 ^ (k+1 - 2):=by
      rw[show k+1 - 2=(k - 2)+1 from by omega,Nat.pow_succ];omega
     have HP:=qz hpow;clear hf hd hg hf' hn hpow;go_wp2_with (fail);(with_reducible refine(HD.out _).mono ?_);rintro e w1 ⟨rfl,rfl⟩;go_wp2
     go_round
     case rel=>exact⟨k+1,16*n+d,by omega,by omega,by go_num,by rw[Apr (by omega) (by omega)],HP.out,HF⟩
     case measure=>simp[intOf];omega
  . obtain rfl:k=6:=by omega
    have hf':=hf.out;have e:Mr (t.data.toList.drop 6) (6 - 6) n=some n:=by cases t.data.toList.drop 6<;>rfl
    rw[e]at hf';subst hf';clear hf e;go_wp2;go_ret2;exact⟨rfl,rfl⟩
end Go.Proofs.YtkmcjfkokoidcaaGreatDoor
