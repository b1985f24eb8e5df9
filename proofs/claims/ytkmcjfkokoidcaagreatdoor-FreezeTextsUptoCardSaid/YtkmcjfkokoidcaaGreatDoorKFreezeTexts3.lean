/- Parts: What the tree of its own text is. Plain. No condition. -/
import Derived.Test.YtkmcjfkokoidcaaGreatDoorKFa42
namespace Go.Proofs.YtkmcjfkokoidcaaGreatDoor
open Go Go.RowKit
theorem Tw {v:Val} (h:(Cv v).1≠0):(Cv v).2= []:=by
 obtain⟨k,b,n,t,l,o⟩:=v;unfold Cv at h ⊢;by_cases h1:Au (.mk k b n t l o) 1≠0
 . rw[if_pos h1]
 rw[if_neg h1]at h ⊢;simp only at h ⊢;by_cases h2:k≠6
 . rw[if_pos h2]
 rw[if_neg h2]at h ⊢;by_cases h3:Ar o=0
 . rw[if_pos h3]at h;exact absurd rfl h
 . rw[if_neg h3]
theorem Ak2 {s:List UInt8} (h:(Kw s).1=0):Ay (Kw s).2/\Ar (Kw s).2=0/\Ab (Kw s).2<=6*s.length/\Ew (Kw s).2:=by
 unfold Kw at h ⊢
 cases hr:Fe s with
 |bad c q=>
  rw[hr]at h;simp only at h;have:=Xp hr;omega
 |ok v q=>
  rw[hr]at h;simp only at h ⊢;obtain⟨h1,h2,h3⟩:=P7 h;obtain⟨_,_,m3,m4⟩:=Rf hr;rw[h1]at m3 m4;refine⟨h2,h3, ?_, ?_⟩
  . simp only[ov,Val.bulk]at m3;omega
  . simp only[ov,J9]at m4;exact m4.2.2
theorem Aci {l:List A5} (ha:Ay l) (hm:Ar l=0) (hi:Ew l):Kw (Am (ov l))=(0,l):=by
 unfold Kw;rw[W5 ha hm (T7 hi)];exact Aeh ha hm
def exE (s:List UInt8):Int×List A5:=if(Kw s).1≠0 then((Kw s).1, [])else if Am (ov (Kw s).2)=s then(0,(Kw s).2)else(4, [])
theorem Aj9 {l:List A5} (ha:Ay l) (hm:Ar l=0) (hi:Ew l):exE (Am (ov l))=(0,l):=by
 unfold exE;rw[Aci ha hm hi,if_neg (by simp),if_pos rfl]
theorem M5 {l:List A5} (ha:Ay l):Ba (Bd l)=l:=(C9 l).2.1.trans (Aaz ha)
theorem Tb {l:List A5} (ha:Ay l) (hm:Ar l=0):Pj l=⟨(Am (ov l)).toArray⟩:=by
 unfold Pj Ot;rw[if_pos hm,if_pos (Fv ha hm)]
def ofT (r:Int×List A5):Option (Nat×Nd):=if r.1=0 then Bd r.2 else none
theorem Ak3 {r:Int×List A5} (h0:r.1≠0->r.2= []) (ha:Ay r.2):Pa (ofT r)/\Ba (ofT r)=r.2:=by
 unfold ofT;by_cases h:r.1=0
 . rw[if_pos h];exact⟨(C9 r.2).1,M5 ha⟩
 . rw[if_neg h,h0 h];exact⟨trivial,rfl⟩
theorem Aht (v:Val):Ay (Cv v).2:=by
 by_cases h:(Cv v).1=0
 . exact(P7 h).2.1
 . rw[Tw h];exact List.Pairwise.nil
end Go.Proofs.YtkmcjfkokoidcaaGreatDoor
