/- Parts: Trees into which keys are put, and out of which they are taken again. Plain. No condition. -/
import Derived.Test.YtkmcjfkokoidcaaGreatDoorKFreezeOrder1
import Derived.Test.YtkmcjfkokoidcaaGreatDoorKFreezeOrder4
namespace Go.Proofs.YtkmcjfkokoidcaaGreatDoor
open Go Go.RowKit
abbrev K8:Val:=.mk 1 false 0 ⟨#[]⟩ [] []
def G0 (g:List ByteArray):List A5:=g.map fun k=>(k,K8)
theorem T3: ∀g:List ByteArray,Ab (G0 g)<=12*I8 g
 | []=>by simp[G0,Ab]
 |k::r=>by
  have ih:=T3 r;have h0:(⟨#[]⟩:ByteArray).size=0:=rfl;simp only[G0,K8]at ih;simp only[G0,List.map_cons,Ab,Ib,I8,K8,Val.bulk,Bf,h0];omega
theorem Akb {g:List ByteArray} {i:Nat} {k:ByteArray} (h:g[i]? =some k):G0 (g.take (i+1))=G0 (g.take i)++ [(k,K8)]:=by
 unfold G0;rw[List.take_add_one,h,Option.toList_some,List.map_append];rfl
def Mn (l:List A5) (g:List ByteArray) (t:Option (Nat×Nd)):Option (Nat×Nd):=g.foldl (fun t k=>if Du k l then t else(Mh t k).1) t
theorem Aj5 {l:List A5} {g:List ByteArray} {t:Option (Nat×Nd)} {i:Nat} {k:ByteArray} (h:g[i]? =some k):Mn l (g.take (i+1)) t=if Du k l then Mn l (g.take i) t else(Mh (Mn l (g.take i) t) k).1:=by
 unfold Mn;rw[List.take_add_one,h,Option.toList_some,List.foldl_append];rfl
theorem T4 (k:ByteArray): ∀l:List A5,Du k l=(Di k l).isSome
 | []=>rfl
 |(a,x)::r=>by
  have ih:=T4 k r;unfold Du at ih ⊢;rw[List.any_cons,ih,Di];by_cases h:a=k
  . rw[if_pos h];simp[h]
  . rw[if_neg h];simp[h]
theorem P5 {l:List A5}: ∀(g:List ByteArray) (t:Option (Nat×Nd)),Pb t->Pb (Mn l g t)/\Ba (Mn l g t)=g.foldl (fun u k=>if(Di k l).isSome then u else C1 k u) (Ba t)/\(Ba (Mn l g t)).length<=(Ba t).length/\Ab (Ba (Mn l g t))<=Ab (Ba t)
 | [],t,h=>⟨h,rfl,Nat.le_refl _,Nat.le_refl _⟩
 |k::r,t,h=>by
  simp only[Mn,List.foldl_cons];by_cases hh:Du k l=true
  . have hg:(Di k l).isSome=true:=by rw[<-T4];exact hh
    rw[if_pos hh,if_pos hg];exact P5 r t h
  . have hg: ¬(Di k l).isSome=true:=by rw[<-T4];exact hh
    rw[if_neg hh,if_neg hg];obtain⟨p1,p2,_⟩:=Am3 k h;obtain⟨i1,i2,i3,i4⟩:=P5 r _ p2;have h1:=S8 k (Ba t);have h2:=L3 k (Ba t);rw[p1]at i2 i3 i4;exact⟨i1,i2,Nat.le_trans i3 h1,Nat.le_trans i4 h2⟩
theorem Ala {l:List A5} (ha:Ay l) (g:List ByteArray):Ba (Mn l g (Bd (G0 g++l.reverse)))=l:=by
 rw[(P5 g _ (C9 _).1).2.1,(C9 _).2.1];unfold Kd;rw[List.foldl_append];have e:(G0 g).foldl (fun l e=>Cf e.1 e.2 l) []=g.foldl (fun u k=>Cf k K8 u) []:=by
  unfold G0;rw[List.foldl_map]
 rw[e];exact Ahv ha g K8
theorem Ahb (l:List A5):Ab l.reverse=Ab l:=by
 induction l with
 |nil=>rfl
 |cons e r ih=>rw[List.reverse_cons,Eh,ih];simp only[Ab];omega
theorem Ut (l:List A5) (g:List ByteArray) (i j:Nat):Pb (Bd (G0 (g.take i)++l.reverse.take j))/\Ab (Ba (Bd (G0 (g.take i)++l.reverse.take j)))<=12*I8 g+Ab l:=by
 obtain⟨i1,_,_,i4⟩:=C9 (G0 (g.take i)++l.reverse.take j);have e:G0 (g.take i)=(G0 g).take i:=by unfold G0;rw[List.map_take]
 have h1:=(Ii (G0 g) i).1;have h2:=(Ii l.reverse j).1;have h3:=T3 g;rw[Ahb]at h2;rw[Eh,e]at i4;rw[e]at i1;rw[e];exact⟨i1,by omega⟩
def Jt (g:List ByteArray) (l:List A5) (i j:Nat):Option (Nat×Nd):=Bd (G0 (g.take i)++l.reverse.take j)
theorem Aid (g:List ByteArray) (l:List A5):Jt g l 0 0=none:=by simp[Jt,G0,Bd]
theorem Ak9 {g:List ByteArray} {l:List A5} {q:Nat} {k:ByteArray} (h:g[q]? =some k):Jt g l (q+1) 0=Lm (Jt g l q 0) k K8:=by
 unfold Jt;rw[Akb h,List.take_zero,List.append_nil,List.append_nil,My]
theorem Ak8 {g:List ByteArray} {l:List A5} {i j:Nat} {e:A5} (h:l.reverse[j]? =some e):Jt g l i (j+1)=Lm (Jt g l i j) e.1 e.2:=by
 unfold Jt;rw[List.take_add_one,h,Option.toList_some,<-List.append_assoc,My]
def J4 (g:List ByteArray) (l:List A5) (q:Nat):Option (Nat×Nd):=Mn l (g.take q) (Jt g l g.length l.length)
theorem Ahh (g:List ByteArray) (l:List A5):J4 g l 0=Jt g l g.length l.length:=by simp[J4,Mn]
theorem Ame {g:List ByteArray} {l:List A5} {q:Nat} {k:ByteArray} (h:g[q]? =some k):J4 g l (q+1)=if Du k l then J4 g l q else(Mh (J4 g l q) k).1:=Aj5 h
theorem Amg (g:List ByteArray) (l:List A5) (q:Nat):Pb (J4 g l q)/\Ab (Ba (J4 g l q))<=12*I8 g+Ab l:=by
 obtain⟨h1,h2⟩:=Ut l g g.length l.length;obtain⟨i1,_,_,i4⟩:=P5 (l:=l) (g.take q) _ h1;exact⟨i1,Nat.le_trans i4 h2⟩
theorem Amf {g:List ByteArray} {l:List A5} (ha:Ay l):Ba (J4 g l g.length)=l:=by
 unfold J4 Jt;have e:l.reverse.take l.length=l.reverse:=List.take_of_length_le (by simp);rw[List.take_length,e];exact Ala ha g
theorem Aob {l:List A5} {j:Nat} (h:j<l.length):l.reverse[j]? =l[l.length - 1 - j]? :=List.getElem?_reverse h
end Go.Proofs.YtkmcjfkokoidcaaGreatDoor
