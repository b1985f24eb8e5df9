/- Parts: What bytes are read as: how great it is. Plain. No condition. -/
import Derived.Test.YtackmnbpfbaemaaGreatDoorKPr25
namespace Go.Proofs.YtackmnbpfbaemaaGreatDoor
theorem Ait {p:POp} (h:Ci p=false):2+p.key.size+p.v.bulk<=(L5 p).bulk:=by
 have e1:(⟨#[]⟩:ByteArray).size=0:=rfl;have e2:A6.size=3:=rfl;have e3:Cn.size=2:=rfl;have e4:B5.size=5:=rfl;have e5:Gt.size=3:=rfl;have e6:H9.size=3:=rfl;have e7:Dt.size=5:=rfl;have e8:Ll.bulk=6:=by decide
 have e9:Ll=.mk 0 false 0 ⟨#[]⟩ [] []:=rfl;obtain⟨k,key,v⟩:=p;unfold Ci at h;unfold L5 ov;by_cases h1:k=1
 . rw[if_pos h1];simp only[Val.bulk,Bc,Al,Ec,tv,e1,e2,e3,e4,e5];omega
 rw[if_neg h1]at h ⊢;by_cases h2:k=2
 . rw[if_pos h2]at h ⊢;have hz:v=Ll:=Ns (by simpa using h);subst hz;simp only[e8];simp only[Val.bulk,Bc,Al,Ec,tv,e1,e2,e3,e6];omega
 . rw[if_neg h2]at h ⊢;by_cases h3:k=3
   . rw[if_pos h3]at h;simp only[Bool.or_eq_false_iff,Bool.not_eq_false']at h;have hz:v=Ll:=Ns h.2;have hk:key.size=0:=by
      have:=h.1;rw[List.isEmpty_iff]at this;have h4:=congrArg List.length this
      rwa [Lib.toList_data,Rc]at h4
     subst hz;simp only[e8,hk];simp only[Val.bulk,Bc,Al,Ec,tv,e1,e3,e7];omega
   . rw[if_neg h3]at h;cases h
theorem We: ∀{l:List POp},(∀p ∈ l,Ci p=false)->D5 l<=Bc (l.map L5)
 | [],_=>Nat.le_refl _
 |p::r,h=>by
  have h1:=Ait (h p (by simp));have h2:=We (l:=r) fun q hq=>h q (by simp[hq]);simp only[List.map_cons,Bc,D5];omega
theorem Ane {p:POp} (h:Ci p=false) (hi:Ga (L5 p)):Ga p.v:=by
 obtain⟨k,key,v⟩:=p;unfold Ci at h;unfold L5 ov at hi;have h0:Ga Ll:=⟨⟨by decide,by decide⟩,trivial,trivial⟩;by_cases h1:k=1
 . rw[if_pos h1]at hi;simp only[Ga,Jj,inP]at hi;exact hi.2.2.2.2.1
 rw[if_neg h1]at h;by_cases h2:k=2
 . rw[if_pos h2]at h;have hz:v=Ll:=Ns (by simpa using h);exact hz▸h0
 . rw[if_neg h2]at h;by_cases h3:k=3
   . rw[if_pos h3]at h;simp only[Bool.or_eq_false_iff,Bool.not_eq_false']at h;have hz:v=Ll:=Ns h.2;exact hz▸h0
   . rw[if_neg h3]at h;cases h
theorem Aan {v:Val}: ∀{l:List Val},Oq l->v ∈ l->Ga v
 |_::_,h,hm=>by
  rcases List.mem_cons.1 hm with rfl|hm
  . exact h.1
  . exact Aan h.2 hm
theorem Ahu {L:List UInt8} {c b k s:Int} {l:List POp} (h:A7 L=(0,c,b,k,s,l)):D5 l<=6*L.length/\inQ l:=by
 obtain⟨_,hmr,hb0,hk0,hs0,_⟩:=Xz h;have hp:=P5 (Um hmr).2;unfold A7 at h
 split at h
 . rename_i h1;exact absurd (congrArg Prod.fst h) h1
 split at h
 . rename_i c' q he;exact absurd he (I6 (congrArg Prod.fst h))
 . rename_i v q he;obtain⟨hm,hi,hbu,_⟩:=Ii he;obtain⟨hv,_⟩:=Sa hm hi h;have hln:=Ic L;subst hv;constructor
   . have h1:=We hp;simp only[ov,Jo,Val.bulk,Bc,Al,Ec,Ib,lv]at hbu;omega
   . intro p hpm;simp only[ov,Jo,Ga,Jj,inP,Ib,lv]at hi;exact Ane (hp p hpm) (Aan hi.2.2.2.2.2.2.1.2.1 (List.mem_map_of_mem hpm))
theorem Nm {L:List UInt8} (hL:L.length<=1100000): ∀v q,Da (Cx L)=.ok v q->v.bulk<=24000000:=by
 intro v q h;have:=(Ii h).2.2.1;have:=Ic L;omega
end Go.Proofs.YtackmnbpfbaemaaGreatDoor
