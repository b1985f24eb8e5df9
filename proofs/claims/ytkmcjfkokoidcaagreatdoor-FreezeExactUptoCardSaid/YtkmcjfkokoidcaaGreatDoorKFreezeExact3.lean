/- Parts: What the tree of its own text is. Plain. No condition. -/
import Derived.Test.YtkmcjfkokoidcaaGreatDoorKFb39
import Derived.Test.YtkmcjfkokoidcaaGreatDoorKFb40
namespace Go.Proofs.YtkmcjfkokoidcaaGreatDoor
open Go Go.RowKit
theorem Aeb {v:Val} (h:(Di v).1≠0):(Di v).2= []:=by
 obtain⟨k,b,n,t,l,o⟩:=v;unfold Di at h ⊢;by_cases h1:Aw (.mk k b n t l o) 1≠0
 . rw[if_pos h1]
 rw[if_neg h1]at h ⊢;simp only at h ⊢;by_cases h2:k≠6
 . rw[if_pos h2]
 rw[if_neg h2]at h ⊢;by_cases h3:A6 o=0
 . rw[if_pos h3]at h;exact absurd rfl h
 . rw[if_neg h3]
theorem U5 {s:List UInt8} (h:(E1 s).1≠0):(E1 s).2= []:=by
 unfold E1 at h ⊢
 cases hr:Ej s with
 |bad c q=>rfl
 |ok v q=>
  rw[hr]at h;exact Aeb h
theorem On {s:List UInt8} (h:(E1 s).1=0):B8 (E1 s).2/\A6 (E1 s).2=0/\Ae (E1 s).2<=6*s.length/\G3 (E1 s).2:=by
 unfold E1 at h ⊢
 cases hr:Ej s with
 |bad c q=>
  rw[hr]at h;simp only at h;have:=Ot hr;omega
 |ok v q=>
  rw[hr]at h;simp only at h ⊢;obtain⟨h1,h2,h3⟩:=W6 h;obtain⟨_,_,m3,m4⟩:=Jd hr;rw[h1]at m3 m4;refine⟨h2,h3, ?_, ?_⟩
  . simp only[ov,Val.bulk]at m3;omega
  . simp only[ov,Kd]at m4;exact m4.2.2
def Qo (s:List UInt8):Int×List Bj:=if(E1 s).1≠0 then((E1 s).1, [])else if Bn (ov (E1 s).2)=s then(0,(E1 s).2)else(4, [])
theorem Aha {s:List UInt8} (h:(Qo s).1≠0):(Qo s).2= []:=by
 unfold Qo at h ⊢;by_cases h1:(E1 s).1≠0
 . rw[if_pos h1]
 rw[if_neg h1]at h ⊢;by_cases h2:Bn (ov (E1 s).2)=s
 . rw[if_pos h2]at h;exact absurd rfl h
 . rw[if_neg h2]
theorem Afy (s:List UInt8):B8 (Qo s).2:=by
 unfold Qo;by_cases h1:(E1 s).1≠0
 . rw[if_pos h1];exact List.Pairwise.nil
 rw[if_neg h1]
 split
 . exact(On (Classical.byContradiction h1)).1
 . exact List.Pairwise.nil
theorem Kj {l:List Bj} (ha:B8 l):Db (C0 l)=l:=(Hu l).2.1.trans (Wg ha)
theorem Aa8 {l:List Bj} (ha:B8 l) (hm:A6 l=0):W8 l=⟨(Bn (ov l)).toArray⟩:=by
 unfold W8 L2;rw[if_pos hm,if_pos (Uq ha hm)]
def ofT (r:Int×List Bj):Option (Nat×Nd):=if r.1=0 then C0 r.2 else none
theorem Ae3 {r:Int×List Bj} (h0:r.1≠0->r.2= []) (ha:B8 r.2):Sc (ofT r)/\Db (ofT r)=r.2:=by
 unfold ofT;by_cases h:r.1=0
 . rw[if_pos h];exact⟨(Hu r.2).1,Kj ha⟩
 . rw[if_neg h,h0 h];exact⟨trivial,rfl⟩
theorem Agc (s:List UInt8):B8 (E1 s).2:=by
 by_cases h:(E1 s).1=0
 . exact(On h).1
 . rw[U5 h];exact List.Pairwise.nil
end Go.Proofs.YtkmcjfkokoidcaaGreatDoor
