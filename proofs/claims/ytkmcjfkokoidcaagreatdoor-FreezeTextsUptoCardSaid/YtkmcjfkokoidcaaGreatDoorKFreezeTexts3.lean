/- Parts: What the tree of its own text is. Plain. No condition. -/
import Derived.Test.YtkmcjfkokoidcaaGreatDoorKFa40
namespace Go.Proofs.YtkmcjfkokoidcaaGreatDoor
open Go Go.RowKit
theorem Tx {v:Val} (h:(Cv v).1≠0):(Cv v).2= []:=by
 obtain⟨k,b,n,t,l,o⟩:=v;unfold Cv at h ⊢;by_cases h1:Au (.mk k b n t l o) 1≠0
 . rw[if_pos h1]
 rw[if_neg h1]at h ⊢;simp only at h ⊢;by_cases h2:k≠6
 . rw[if_pos h2]
 rw[if_neg h2]at h ⊢;by_cases h3:As o=0
 . rw[if_pos h3]at h;exact absurd rfl h
 . rw[if_neg h3]
theorem Ak3 {s:List UInt8} (h:(Kv s).1=0):Ay (Kv s).2/\As (Kv s).2=0/\Ab (Kv s).2<=6*s.length/\Ew (Kv s).2:=by
 unfold Kv at h ⊢
 cases hr:Fe s with
 |bad c q=>
  rw[hr]at h;simp only at h;have:=Xq hr;omega
 |ok v q=>
  rw[hr]at h;simp only at h ⊢;obtain⟨h1,h2,h3⟩:=P8 h;obtain⟨_,_,m3,m4⟩:=Rg hr;rw[h1]at m3 m4;refine⟨h2,h3, ?_, ?_⟩
  . simp only[ov,Val.bulk]at m3;omega
  . simp only[ov,J8]at m4;exact m4.2.2
theorem Acj {l:List A5} (ha:Ay l) (hm:As l=0) (hi:Ew l):Kv (Am (ov l))=(0,l):=by
 unfold Kv;rw[W6 ha hm (T8 hi)];exact Aei ha hm
def exE (s:List UInt8):Int×List A5:=if(Kv s).1≠0 then((Kv s).1, [])else if Am (ov (Kv s).2)=s then(0,(Kv s).2)else(4, [])
theorem Aka {l:List A5} (ha:Ay l) (hm:As l=0) (hi:Ew l):exE (Am (ov l))=(0,l):=by
 unfold exE;rw[Acj ha hm hi,if_neg (by simp),if_pos rfl]
theorem M5 {l:List A5} (ha:Ay l):Ba (Bd l)=l:=(C9 l).2.1.trans (Aa0 ha)
theorem Tc {l:List A5} (ha:Ay l) (hm:As l=0):Pk l=⟨(Am (ov l)).toArray⟩:=by
 unfold Pk Ou;rw[if_pos hm,if_pos (Fv ha hm)]
def ofT (r:Int×List A5):Option (Nat×Nd):=if r.1=0 then Bd r.2 else none
theorem Ak4 {r:Int×List A5} (h0:r.1≠0->r.2= []) (ha:Ay r.2):Pb (ofT r)/\Ba (ofT r)=r.2:=by
 unfold ofT;by_cases h:r.1=0
 . rw[if_pos h];exact⟨(C9 r.2).1,M5 ha⟩
 . rw[if_neg h,h0 h];exact⟨trivial,rfl⟩
theorem Ahu (v:Val):Ay (Cv v).2:=by
 by_cases h:(Cv v).1=0
 . exact(P8 h).2.1
 . rw[Tx h];exact List.Pairwise.nil
end Go.Proofs.YtkmcjfkokoidcaaGreatDoor
