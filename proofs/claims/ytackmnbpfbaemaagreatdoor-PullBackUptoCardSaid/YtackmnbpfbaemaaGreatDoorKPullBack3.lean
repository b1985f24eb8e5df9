/- Parts, joined: What bytes are read as: how great it is. Plain. No condition. -/
import Derived.Test.YtackmnbpfbaemaaGreatDoorProg
import Derived.Test.YtackmnbpfbaemaaGreatDoorKPb21
import Derived.Test.YtackmnbpfbaemaaGreatDoorKPb38
namespace Go.Proofs.YtackmnbpfbaemaaGreatDoor
theorem bulk_low {p:POp} (h:strangeB p=false):2+p.key.size+p.v.bulk≤(objQ p).bulk:=by
 have e1:(⟨#[]⟩:ByteArray).size=0:=rfl
 have e2:kKey.size=3:=rfl
 have e3:kOp.size=2:=rfl
 have e4:kVal.size=5:=rfl
 have e5:sPut.size=3:=rfl
 have e6:sDel.size=3:=rfl
 have e7:sClear.size=5:=rfl
 have e8:noV.bulk=6:=by decide
 have e9:noV= .mk 0 false 0 ⟨#[]⟩ [] []:=rfl
 obtain⟨k,key,v⟩:=p
 unfold strangeB at h
 unfold objQ ov
 by_cases h1:k=1
 · rw[if_pos h1]
   simp only[Val.bulk,bulkL,bulkO,bulkP,tv,e1,e2,e3,e4,e5];omega
 rw[if_neg h1]at h ⊢
 by_cases h2:k=2
 · rw[if_pos h2]at h ⊢
   have hz:v=noV:=zeroB_noV (by simpa using h)
   subst hz
   simp only[e8]
   simp only[Val.bulk,bulkL,bulkO,bulkP,tv,e1,e2,e3,e6];omega
 · rw[if_neg h2]at h ⊢
   by_cases h3:k=3
   · rw[if_pos h3]at h
     simp only[Bool.or_eq_false_iff,Bool.not_eq_false']at h
     have hz:v=noV:=zeroB_noV h.2
     have hk:key.size=0:=by
      have:=h.1
      rw[List.isEmpty_iff]at this
      have h4:=congrArg List.length this
      rwa [Lib.toList_data,size_list]at h4
     subst hz
     simp only[e8,hk]
     simp only[Val.bulk,bulkL,bulkO,bulkP,tv,e1,e3,e7];omega
   · rw[if_neg h3]at h;cases h
theorem bulkQ_low: ∀{l:List POp},(∀p ∈ l,strangeB p=false)→bulkQ l≤bulkL (l.map objQ)
 | [],_=>Nat.le_refl _
 |p::r,h=>by
  have h1:=bulk_low (h p (by simp))
  have h2:=bulkQ_low (l:=r) fun q hq=>h q (by simp[hq])
  simp only[List.map_cons,bulkL,bulkQ]
  omega
theorem in_low {p:POp} (h:strangeB p=false) (hi:inV (objQ p)):inV p.v:=by
 obtain⟨k,key,v⟩:=p
 unfold strangeB at h
 unfold objQ ov at hi
 have h0:inV noV:=⟨⟨by decide,by decide⟩,trivial,trivial⟩
 by_cases h1:k=1
 · rw[if_pos h1]at hi
   simp only[inV,inO,inP]at hi
   exact hi.2.2.2.2.1
 rw[if_neg h1]at h
 by_cases h2:k=2
 · rw[if_pos h2]at h
   have hz:v=noV:=zeroB_noV (by simpa using h)
   exact hz▸h0
 · rw[if_neg h2]at h
   by_cases h3:k=3
   · rw[if_pos h3]at h
     simp only[Bool.or_eq_false_iff,Bool.not_eq_false']at h
     have hz:v=noV:=zeroB_noV h.2
     exact hz▸h0
   · rw[if_neg h3]at h;cases h
theorem inL_mem' {v:Val}: ∀{l:List Val},inL l→v ∈ l→inV v
 |_::_,h,hm=>by
  rcases List.mem_cons.1 hm with rfl|hm
  · exact h.1
  · exact inL_mem' h.2 hm
theorem resp_read {L:List UInt8} {c b k s:Int} {l:List POp} (h:decResp L=(0,c,b,k,s,l)):bulkQ l≤6*L.length∧inQ l:=by
 obtain⟨_,hmr,hb0,hk0,hs0,_⟩:=decResp_back h
 have hp:=mayOps_plain (resp_small hmr).2
 unfold decResp at h
 split at h
 · rename_i h1
   exact absurd (congrArg Prod.fst h) h1
 split at h
 · rename_i c' q he
   exact absurd he (exactL_bad0 (congrArg Prod.fst h))
 · rename_i v q he
   obtain⟨hm,hi,hbu,_⟩:=exactL_ok he
   obtain⟨hv,_⟩:=respOf_back hm hi h
   have hln:=bodyB_len L
   subst hv
   constructor
   · have h1:=bulkQ_low hp
     simp only[ov,respO,Val.bulk,bulkL,bulkO,bulkP,listQ,lv]at hbu
     omega
   · intro p hpm
     simp only[ov,respO,inV,inO,inP,listQ,lv]at hi
     exact in_low (hp p hpm) (inL_mem' hi.2.2.2.2.2.2.1.2.1 (List.mem_map_of_mem hpm))
theorem read_bulk {L:List UInt8} (hL:L.length≤1100000): ∀v q,exactL (bodyB L)= .ok v q→v.bulk≤24000000:=by
 intro v q h
 have:=(exactL_ok h).2.2.1
 have:=bodyB_len L
 omega
end Go.Proofs.YtackmnbpfbaemaaGreatDoor
