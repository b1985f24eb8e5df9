/- Parts: A reader of values, byte by byte: blanks, numbers, quotes. Plain. No condition. -/
import Derived.Lib.Builder
import Derived.Lib.MapLaws
import Derived.Lib.RuneBytes
import Derived.Test.YtkmcjfkokoidcaaGreatDoorKFb1
namespace Go.Proofs.YtkmcjfkokoidcaaGreatDoor
open Go.RowKit
def Ik (w:World) (B:Nat):List Val->List Value->Prop
 | [],ns=>ns= []
 |v::r,ns=> ∃cs rest,ns=cs++rest/\Ac w B v cs/\Ik w B r rest
theorem Ac.len {w:World} {B:Nat} {v:Val} {cs:List Value} (h:Ac w B v cs):cs.length=6/\ ∀u ∈ cs,u.oneCell'=true:=by
 obtain⟨k,b,n,t,l,o⟩:=v;simp only[Ac]at h;obtain⟨la,lc,oa,oc,rfl,_,_⟩:=h;refine⟨rfl,fun u hu=> ?_⟩;simp only[List.mem_cons,List.not_mem_nil,or_false]at hu;rcases hu with rfl|rfl|rfl|rfl|rfl|rfl<;>rfl
theorem Ik.len {w:World} {B:Nat}: ∀{l:List Val} {ns:List Value},Ik w B l ns->ns.length=l.length*6/\ ∀u ∈ ns,u.oneCell'=true
 | [],ns,h=>by
   have:ns= []:=h;subst this;exact⟨rfl,fun u hu=>by cases hu⟩
 |v::r,ns,h=>by
  obtain⟨cs,rest,rfl,h1,h2⟩:=h;obtain⟨a1,a2⟩:=h1.len;obtain⟨b1,b2⟩:=Ik.len h2;refine⟨by rw[List.length_append,a1,b1,List.length_cons];omega,fun u hu=> ?_⟩;rcases List.mem_append.1 hu with hu|hu
  . exact a2 u hu
  . exact b2 u hu
theorem Ao.row {w:World} {B:Nat}: ∀{l:List Val} {g off:Nat},Ao w B l g off-> ∃ns,Ik w B l ns/\ ∀j u,ns[j]? =some u->w.cell? ⟨g,off+j,none⟩=some u
 | [],_,_,_=>⟨[],rfl,fun j u h=>by simp at h⟩
 |v::r,g,off,h=>by
  simp only[Ao]at h;obtain⟨⟨cs,h1,h2⟩,h3⟩:=h;obtain⟨ns,h4,h5⟩:=Ao.row h3;refine⟨cs++ns,⟨cs,ns,rfl,h1,h4⟩,fun j u hu=> ?_⟩;have hl:=h1.len.1;by_cases hj:j<6
  . rw[List.getElem?_append_left (by omega)]at hu;exact h2 j u hu
  . rw[List.getElem?_append_right (by omega),hl]at hu;have:=h5 (j - 6) u hu
    rwa [show off+6+(j - 6)=off+j from by omega]at this
theorem Ik.holds {w w':World} {B B':Nat} (hk: ∀v cs,Ac w B v cs->Ac w' B' v cs) {g:Nat}: ∀{l:List Val} {ns:List Value} {off:Nat},Ik w B l ns->(∀j u,ns[j]? =some u->w'.cell? ⟨g,off+j,none⟩=some u)->Ao w' B' l g off
 | [],_,_,_,_=>by simp[Ao]
 |v::r,ns,off,h,hc=>by
  obtain⟨cs,rest,rfl,h1,h2⟩:=h;have hl:=h1.len.1;simp only[Ao];refine⟨⟨cs,hk v cs h1,fun j u hu=>hc j u ?_⟩,Ik.holds hk h2 (fun j u hu=> ?_)⟩
  . have:=(List.getElem?_eq_some_iff.1 hu).1;rw[List.getElem?_append_left this];exact hu
  . rw[show off+6+j=off+(6+j)from by omega];refine hc (6+j) u ?_;rw[List.getElem?_append_right (by omega),hl,show 6+j - 6=j from by omega];exact hu
theorem Ik.snoc {w:World} {B:Nat} {v:Val} {cs:List Value} (hv:Ac w B v cs): ∀{l:List Val} {ns:List Value},Ik w B l ns->Ik w B (l++ [v]) (ns++cs)
 | [],ns,h=>by
   have:ns= []:=h;subst this;exact⟨cs, [],by simp,hv,rfl⟩
 |x::r,ns,h=>by
  obtain⟨c1,rest,rfl,h1,h2⟩:=h;exact⟨c1,rest++cs,by simp,h1,Ik.snoc hv h2⟩
def within:Val->List Val
 | .mk k _ _ _ l o=>if k=5 then l else if k=6 then o.map (·.2)else []
theorem R8 {cs:List Value} (h:cs.length=6): ∃c0 c1 c2 c3 c4 c5,cs= [c0,c1,c2,c3,c4,c5]:=by
 match cs,h with
 | [c0,c1,c2,c3,c4,c5],_=>exact⟨_,_,_,_,_,_,rfl⟩
def N9 (w w':World) (v:Val) (cs:List Value):Prop:= ∀w'':World,w'.heap.size<=w''.heap.size->(∀p:Addr,w.heap.size<=p.block->p.block<w'.heap.size->w''.cell? p=w'.cell? p)->Ac w'' w'.heap.size v cs
theorem Ik.more {w:World} {B B':Nat} (h:B<=B'): ∀{l:List Val} {ns:List Value},Ik w B l ns->Ik w B' l ns
 | [],_,e=>e
 |_::_,_,⟨cs,rest,e,h1,h2⟩=>⟨cs,rest,e,Ac.more h _ _ h1,Ik.more h h2⟩
theorem Abk (key:ByteArray) {cs:List Value} (h: ∀u ∈ cs,u.oneCell'=true): ∀u ∈ Value.string key::cs,u.oneCell'=true:=by
 intro u hu;rcases List.mem_cons.1 hu with rfl|hu
 . rfl
 . exact h u hu
theorem Fh {w:World} {g:Nat} {a0 a1 a2 a3 a4 a5:Value} (h:w.heap[g]? =some (.cells #[a0,a1,a2,a3,a4,a5] 37 (0,0))):
 w.cell? ⟨g,0,none⟩=some a0/\w.cell? ⟨g,1,none⟩=some a1/\w.cell? ⟨g,2,none⟩=some a2/\w.cell? ⟨g,3,none⟩=some a3/\w.cell? ⟨g,4,none⟩=some a4/\w.cell? ⟨g,5,none⟩=some a5:=by
 refine⟨?_, ?_, ?_, ?_, ?_, ?_⟩<;>(rw[Lib.cell_of_heap h];rfl)
def Ep (w:World) (B:Nat):List (ByteArray×Val)->List Value->Prop
 | [],ns=>ns= []
 |(key,v)::r,ns=> ∃cs rest,ns=.string key::(cs++rest)/\Ac w B v cs/\Ep w B r rest
theorem Ep.more {w:World} {B B':Nat} (h:B<=B'): ∀{l:List (ByteArray×Val)} {ns:List Value},Ep w B l ns->Ep w B' l ns
 | [],_,e=>e
 |(_,_)::_,_,⟨cs,rest,e,h1,h2⟩=>⟨cs,rest,e,Ac.more h _ _ h1,Ep.more h h2⟩
theorem Ep.holds {w:World} {B:Nat} {g:Nat}: ∀{l:List (ByteArray×Val)} {ns:List Value} {off:Nat},Ep w B l ns->(∀j u,ns[j]? =some u->w.cell? ⟨g,off+j,none⟩=some u)->Ak w B l g off
 | [],_,_,_,_=>by simp[Ak]
 |(key,v)::r,ns,off,h,hc=>by
  obtain⟨cs,rest,rfl,h1,h2⟩:=h;have hl:=h1.len.1;simp only[Ak,Kf];refine⟨⟨hc 0 _ rfl,cs,h1,fun j u hu=> ?_⟩,Ep.holds h2 (fun j u hu=> ?_)⟩
  . have h3:=(List.getElem?_eq_some_iff.1 hu).1;rw[show off+1+j=off+(j+1)from by omega];refine hc (j+1) u ?_;rw[List.getElem?_cons_succ,List.getElem?_append_left h3];exact hu
  . rw[show off+7+j=off+(6+j+1)from by omega];refine hc (6+j+1) u ?_;rw[List.getElem?_cons_succ,List.getElem?_append_right (by omega),hl,show 6+j - 6=j from by omega];exact hu
theorem Ep.snoc {w:World} {B:Nat} {key:ByteArray} {v:Val} {cs:List Value} (hv:Ac w B v cs): ∀{l:List (ByteArray×Val)} {ns:List Value},Ep w B l ns->Ep w B (l++ [(key,v)]) (ns++(.string key::cs))
 | [],ns,h=>by
   have:ns= []:=h;subst this;exact⟨cs, [],by simp,hv,rfl⟩
 |(k',x)::r,ns,h=>by
  obtain⟨c1,rest,rfl,h1,h2⟩:=h;exact⟨c1,rest++(.string key::cs),by simp,h1,Ep.snoc hv h2⟩
theorem Nh:(Tryz.prog.info? 37).map (fun i=>(i.zero,i.size,i.bytes))=some (some (.agg #[.int .i64 0,.bool false,.int .i64 0,.string ⟨#[]⟩,.slice none 0 0,.slice none 0 0]),6,88):=by kernel_rfl
theorem Rm:(Tryz.prog.info? 94).map (fun i=>(i.zero,i.size,i.bytes))=some (some (.agg #[.string ⟨#[]⟩,.int .i64 0,.bool false,.int .i64 0,.string ⟨#[]⟩,.slice none 0 0,.slice none 0 0]),7,104):=by kernel_rfl
theorem Dy (w:World) (b i:Nat) (V:Value) {c:Nat} (h:c≠b):(w.setCell ⟨b,i,none⟩ V).heap[c]? =w.heap[c]? :=by
 simp only[World.setCell,Array.getElem?_modify];rw[if_neg (fun e=>h e.symm)]
theorem Ep.app {w:World} {B:Nat}: ∀{a b:List (ByteArray×Val)} {ns ms:List Value},Ep w B a ns->Ep w B b ms->Ep w B (a++b) (ns++ms)
 | [],b,ns,ms,h,h'=>by
   have:ns= []:=h;subst this;exact h'
 |(k,v)::r,b,ns,ms,⟨cs,rest,e,h1,h2⟩,h'=>by
  subst e;exact⟨cs,rest++ms,by simp,h1,Ep.app h2 h'⟩
theorem Ep.len {w:World} {B:Nat}: ∀{l:List (ByteArray×Val)} {ns:List Value},Ep w B l ns->ns.length=l.length*7/\ ∀u ∈ ns,u.oneCell'=true
 | [],ns,h=>by
   have:ns= []:=h;subst this;exact⟨rfl,fun u hu=>by cases hu⟩
 |(k,v)::r,ns,⟨cs,rest,e,h1,h2⟩=>by
  subst e;obtain⟨a1,a2⟩:=h1.len;obtain⟨b1,b2⟩:=Ep.len h2;refine⟨by rw[List.length_cons,List.length_append,a1,b1,List.length_cons];omega,fun u hu=> ?_⟩;rcases List.mem_cons.1 hu with rfl|hu
  . rfl
  rcases List.mem_append.1 hu with hu|hu
  . exact a2 u hu
  . exact b2 u hu
theorem Ep.split {w:World} {B:Nat}: ∀{l:List (ByteArray×Val)} {ns:List Value} (k:Nat),Ep w B l ns->Ep w B (l.take k) (ns.take (k*7))/\Ep w B (l.drop k) (ns.drop (k*7))
 | [],ns,k,h=>by
   have:ns= []:=h;subst this;simp[Ep]
 |(key,v)::r,ns,0,h=>by
  simp only[List.take_zero,Nat.zero_mul,List.drop_zero];exact⟨rfl,h⟩
 |(key,v)::r,ns,k+1,⟨cs,rest,e,h1,h2⟩=>by
  subst e;obtain⟨a,b⟩:=Ep.split k h2;have hl:=h1.len.1;have e1:(Value.string key::(cs++rest)).take ((k+1)*7)=.string key::(cs++rest.take (k*7)):=by
   rw[show(k+1)*7=(6+k*7)+1 from by omega,List.take_succ_cons,List.take_append,hl,List.take_of_length_le (by omega),show 6+k*7 - 6=k*7 from by omega]
  have e2:(Value.string key::(cs++rest)).drop ((k+1)*7)=rest.drop (k*7):=by
   rw[show(k+1)*7=(6+k*7)+1 from by omega,List.drop_succ_cons,List.drop_append,hl,List.drop_eq_nil_of_le (by omega),show 6+k*7 - 6=k*7 from by omega,List.nil_append]
  rw[e1,e2];exact⟨⟨cs,rest.take (k*7),rfl,h1,a⟩,b⟩
theorem C5: ∀(a b:List (ByteArray×Val)),Ae (a++b)=Ae a+Ae b
 | [],b=>by simp[Ae]
 |x::r,b=>by simp only[List.cons_append,Ae,C5 r b];omega
theorem Qr: ∀{a b:List (ByteArray×Val)},G3 a->G3 b->G3 (a++b)
 | [],_,_,h=>h
 |x::r,b,h,h'=>by
  simp only[List.cons_append,G3]at h ⊢;exact⟨h.1,Qr h.2 h'⟩
def C8 (a b:ByteArray):Bool:=Op.bytesLess a.toList b.toList
def Da (k:ByteArray):List (ByteArray×Val)->Nat
 | []=>0
 |p::r=>if C8 p.1 k then Da k r+1 else 0
def Cl (k:ByteArray) (acc:List (ByteArray×Val)):Bool:=(acc[Da k acc]?).any fun p=>p.1.toList==k.toList
def Ib (m:ByteArray×Val) (acc:List (ByteArray×Val)):List (ByteArray×Val):=acc.take (Da m.1 acc)++([m]++acc.drop (Da m.1 acc))
def B9:List (ByteArray×Val)->List (ByteArray×Val)->Option (List (ByteArray×Val))
 | [],acc=>some acc
 |m::r,acc=>if Cl m.1 acc then none else B9 r (Ib m acc)
theorem Ob (k:ByteArray): ∀acc,Da k acc<=acc.length
 | []=>Nat.zero_le _
 |p::r=>by
  have:=Ob k r;simp only[Da,List.length_cons]
  split<;>omega
theorem Adu (k:ByteArray): ∀{acc:List (ByteArray×Val)} {j:Nat} {p:ByteArray×Val},j<Da k acc->acc[j]? =some p->C8 p.1 k=true
 | [],j,p,h,hp=>by simp at hp
 |q::r,0,p,h,hp=>by
  simp only[Da]at h;simp only[List.getElem?_cons_zero,Option.some.injEq]at hp;subst hp;by_cases hq:C8 q.1 k=true
  . exact hq
  . rw[if_neg hq]at h;omega
 |q::r,j+1,p,h,hp=>by
  simp only[Da]at h;by_cases hq:C8 q.1 k=true
  . rw[if_pos hq]at h;exact Adu k (acc:=r) (j:=j) (by omega) (by simpa using hp)
  . rw[if_neg hq]at h;omega
theorem Adt (k:ByteArray): ∀{acc:List (ByteArray×Val)} {p:ByteArray×Val},acc[Da k acc]? =some p->C8 p.1 k=false
 | [],p,hp=>by simp at hp
 |q::r,p,hp=>by
  by_cases hq:C8 q.1 k=true
  . simp only[Da,if_pos hq,List.getElem?_cons_succ]at hp;exact Adt k hp
  . simp only[Da,if_neg hq,List.getElem?_cons_zero,Option.some.injEq]at hp;subst hp;simpa using hq
theorem Ae9 (m:ByteArray×Val) (acc:List (ByteArray×Val)):(Ib m acc).length=acc.length+1:=by
 have:=Ob m.1 acc;simp only[Ib,List.length_append,List.length_take,List.length_drop,List.length_cons,List.length_nil];omega
theorem Tc (m:ByteArray×Val) (acc:List (ByteArray×Val)):Ae (Ib m acc)=Ae acc+Gm m:=by
 have h:=congrArg Ae (List.take_append_drop (Da m.1 acc) acc);rw[C5]at h;simp only[Ib,C5,Ae];omega
theorem Xb: ∀{l:List (ByteArray×Val)} (k:Nat),G3 l->G3 (l.take k)
 | [],k,_=>by simp[G3]
 |_::_,0,_=>by simp[G3]
 |x::r,k+1,h=>by
  simp only[List.take_succ_cons,G3]at h ⊢;exact⟨h.1,Xb k h.2⟩
theorem Xa: ∀{l:List (ByteArray×Val)} (k:Nat),G3 l->G3 (l.drop k)
 | [],k,_=>by simp[G3]
 |_::_,0,h=>h
 |x::r,k+1,h=>by
  simp only[List.drop_succ_cons,G3]at h ⊢;exact Xa k h.2
theorem Af1 {m:ByteArray×Val} {acc:List (ByteArray×Val)} (h:G3 acc) (hm:Kd m.2):G3 (Ib m acc):=by
 obtain⟨k,v⟩:=m;exact Qr (Xb _ h) (Qr ⟨hm,trivial⟩ (Xa _ h))
theorem Ph: ∀{l acc o:List (ByteArray×Val)},B9 l acc=some o->Ae o=Ae acc+Ae l
 | [],acc,o,h=>by
   simp only[B9,Option.some.injEq]at h;subst h;simp[Ae]
 |m::r,acc,o,h=>by
  simp only[B9]at h;by_cases hh:Cl m.1 acc=true
  . rw[if_pos hh]at h;cases h
  . rw[if_neg hh]at h;rw[Ph h,Tc];simp only[Ae];omega
theorem Tn: ∀{l acc o:List (ByteArray×Val)},B9 l acc=some o->G3 acc->G3 l->G3 o
 | [],acc,o,h,ha,_=>by
   simp only[B9,Option.some.injEq]at h;exact h▸ha
 |(k,v)::r,acc,o,h,ha,hl=>by
  simp only[B9]at h;by_cases hh:Cl k acc=true
  . rw[if_pos hh]at h;cases h
  . rw[if_neg hh]at h;exact Tn h (Af1 ha hl.1) hl.2
theorem I8: ∀x:List UInt8,Op.bytesLess x x=false
 | []=>rfl
 |a::x=>by simp[Op.bytesLess,I8 x,UInt8.lt_irrefl]
theorem Q1: ∀{x y z:List UInt8},Op.bytesLess x y=true->Op.bytesLess y z=true->Op.bytesLess x z=true
 |_, [],_,h,_=>by cases ‹List UInt8› <;>simp[Op.bytesLess]at h
 |_,_::_, [],_,h=>by simp[Op.bytesLess]at h
 | [],_::_,_::_,_,_=>rfl
 |a::x,b::y,c::z,h,k=>by
  simp only[Op.bytesLess,Bool.or_eq_true,Bool.and_eq_true,decide_eq_true_eq,beq_iff_eq]at h k ⊢;rcases h with h|⟨rfl,h⟩<;>rcases k with k|⟨rfl,k⟩
  . exact .inl (UInt8.lt_trans h k)
  . exact .inl h
  . exact .inl k
  . exact .inr ⟨rfl,Q1 h k⟩
theorem Y9: ∀(x y:List UInt8),Op.bytesLess x y=true\/x=y\/Op.bytesLess y x=true
 | [], []=> .inr (.inl rfl)
 | [],_::_=> .inl rfl
 |_::_, []=> .inr (.inr rfl)
 |a::x,b::y=>by
  simp only[Op.bytesLess,Bool.or_eq_true,Bool.and_eq_true,decide_eq_true_eq,beq_iff_eq];rcases Nat.lt_trichotomy a.toNat b.toNat with h|h|h
  . exact .inl (.inl (UInt8.lt_iff_toNat_lt.2 h))
  . have hab:a=b:=UInt8.toNat_inj.1 h;subst hab;rcases Y9 x y with h|h|h
    . exact .inl (.inr ⟨rfl,h⟩)
    . exact .inr (.inl (by rw[h]))
    . exact .inr (.inr (.inr ⟨rfl,h⟩))
  . exact .inr (.inr (.inl (UInt8.lt_iff_toNat_lt.2 h)))
theorem toList_inj {a b:ByteArray} (h:a.toList=b.toList):a=b:=by
 rw[Lib.toList_data,Lib.toList_data]at h;exact ByteArray.ext (Array.ext' h)
theorem Jz (a:ByteArray):C8 a a=false:=I8 _
theorem De {a b c:ByteArray} (h:C8 a b=true) (k:C8 b c=true):C8 a c=true:=Q1 h k
theorem Lf (a b:ByteArray):C8 a b=true\/a=b\/C8 b a=true:=by
 rcases Y9 a.toList b.toList with h|h|h
 . exact .inl h
 . exact .inr (.inl (toList_inj h))
 . exact .inr (.inr h)
theorem Ro {a b:ByteArray} (h:C8 a b=true):C8 b a=false:=by
 cases e:C8 b a with
 |false=>rfl
 |true=>have:=De h e;rw[Jz]at this;cases this
def B8 (l:List (ByteArray×Val)):Prop:=l.Pairwise fun a b=>C8 a.1 b.1=true
theorem S6 (k:ByteArray): ∀{acc:List (ByteArray×Val)},B8 acc->Cl k acc=false->(∀p ∈ acc.take (Da k acc),C8 p.1 k=true)/\(∀p ∈ acc.drop (Da k acc),C8 k p.1=true)
 | [],_,_=>by simp
 |q::r,ha,hh=>by
  obtain⟨h1,h2⟩:=List.pairwise_cons.1 ha;by_cases hq:C8 q.1 k=true
  . have hh':Cl k r=false:=by
     unfold Cl at hh ⊢;simpa only[Da,if_pos hq,List.getElem?_cons_succ]using hh
    obtain⟨a,b⟩:=S6 k h2 hh';simp only[Da,if_pos hq,List.take_succ_cons,List.drop_succ_cons];refine⟨fun p hp=> ?_,b⟩;rcases List.mem_cons.1 hp with rfl|hp
    . exact hq
    . exact a p hp
  . simp only[Da,if_neg hq,List.take_zero,List.drop_zero];refine⟨fun p hp=>(by cases hp), ?_⟩;have hne:q.1≠k:=by
     intro e;unfold Cl at hh;simp only[Da,if_neg hq,List.getElem?_cons_zero,Option.any_some]at hh;rw[e]at hh;simp at hh
    have hkq:C8 k q.1=true:=by
     rcases Lf q.1 k with h|h|h
     . exact absurd h hq
     . exact absurd h hne
     . exact h
    intro p hp;rcases List.mem_cons.1 hp with rfl|hp
    . exact hkq
    . exact De hkq (h1 p hp)
theorem Ae8 {m:ByteArray×Val} {acc:List (ByteArray×Val)} (ha:B8 acc) (hh:Cl m.1 acc=false):B8 (Ib m acc):=by
 obtain⟨h1,h2⟩:=S6 m.1 ha hh;have h3:B8 (acc.take (Da m.1 acc)++acc.drop (Da m.1 acc)):=by rw[List.take_append_drop];exact ha
 obtain⟨h4,h5,h6⟩:=List.pairwise_append.1 h3;refine List.pairwise_append.2 ⟨h4,List.pairwise_cons.2 ⟨h2,h5⟩,fun a ha b hb=> ?_⟩;rcases List.mem_cons.1 hb with rfl|hb
 . exact h1 a ha
 . exact h6 a ha b hb
theorem Ts (m:ByteArray×Val) (acc:List (ByteArray×Val)):(Ib m acc).Perm (m::acc):=by
 have h:(acc.take (Da m.1 acc)++([m]++acc.drop (Da m.1 acc))).Perm ([m]++(acc.take (Da m.1 acc)++acc.drop (Da m.1 acc))):=by
  rw[<-List.append_assoc,<-List.append_assoc];exact List.Perm.append_right _ List.perm_append_comm
 rw[List.take_append_drop]at h;exact h
theorem Aeg {k:ByteArray} {acc:List (ByteArray×Val)} (h:Cl k acc=true): ∃v,(k,v) ∈ acc:=by
 unfold Cl at h
 cases e:acc[Da k acc]? with
 |none=>rw[e]at h;cases h
 |some p=>
  rw[e]at h;have hk:p.1=k:=toList_inj (by simpa using h);exact⟨p.2,by rw[<-hk];exact List.mem_of_getElem? e⟩
theorem Pj: ∀{l acc o:List (ByteArray×Val)},B9 l acc=some o->B8 acc->B8 o/\o.Perm (l++acc)
 | [],acc,o,h,ha=>by
   simp only[B9,Option.some.injEq]at h;subst h;exact⟨ha,List.Perm.refl _⟩
 |m::r,acc,o,h,ha=>by
  simp only[B9]at h;by_cases hh:Cl m.1 acc=true
  . rw[if_pos hh]at h;cases h
  . rw[if_neg hh]at h;obtain⟨h1,h2⟩:=Pj h (Ae8 ha (by simpa using hh));exact⟨h1,h2.trans ((List.Perm.append_left r (Ts m acc)).trans List.perm_middle)⟩
theorem Pi: ∀{l acc:List (ByteArray×Val)},B9 l acc=none-> ¬((l++acc).map (·.1)).Nodup
 | [],acc,h=>by simp[B9]at h
 |m::r,acc,h=>by
  simp only[B9]at h;by_cases hh:Cl m.1 acc=true
  . obtain⟨v,hv⟩:=Aeg hh;intro hn;rw[List.cons_append,List.map_cons,List.nodup_cons]at hn;exact hn.1 (List.mem_map.2 ⟨(m.1,v),List.mem_append.2 (.inr hv),rfl⟩)
  . rw[if_neg hh]at h;intro hn;refine Pi h ?_;have hp:((r++Ib m acc).map (·.1)).Perm ((m::r++acc).map (·.1)):=((List.Perm.append_left r (Ts m acc)).trans List.perm_middle).map _;exact hp.nodup_iff.2 hn
theorem Q0: ∀{a b:List (ByteArray×Val)},B8 a->B8 b->a.Perm b->a=b
 | [],b,_,_,h=>(List.Perm.nil_eq h)
 |x::a, [],_,_,h=>by have:=h.length_eq;simp at this
 |x::a,y::b,ha,hb,h=>by
  obtain⟨h1,h2⟩:=List.pairwise_cons.1 ha;obtain⟨h3,h4⟩:=List.pairwise_cons.1 hb;have hxy:x=y:=by
   rcases List.mem_cons.1 (h.mem_iff.1 (List.mem_cons_self (a:=x)))with e|hx
   . exact e
   . rcases List.mem_cons.1 (h.mem_iff.2 (List.mem_cons_self (a:=y)))with e|hy
     . exact e.symm
     . have p:=h3 x hx;have q:=h1 y hy;rw[Ro p]at q
       cases q
  subst hxy;rw[Q0 h2 h4 (List.perm_cons _ |>.1 h)]
inductive Rd (α:Type) where
 |ok (a:α) (q:Nat)
 |bad (e:Int) (q:Nat)
def D5 (c:UInt8):Bool:=c==9||c==10||c==13||c==32
def blanks:List UInt8->Nat
 | []=>0
 |c::r=>if D5 c=true then blanks r+1 else 0
def Al (s:List UInt8) (p:Nat):Nat:=p+blanks (s.drop p)
theorem S7: ∀l:List UInt8,blanks l<=l.length
 | []=>Nat.le_refl _
 |c::r=>by
  unfold blanks
  split
  . have:=S7 r;simp only[List.length_cons];omega
  . exact Nat.zero_le _
theorem Bs (s:List UInt8) (p:Nat):p<=Al s p:=Nat.le_add_right _ _
theorem En {s:List UInt8} {p:Nat} (h:p<=s.length):Al s p<=s.length:=by
 have:=S7 (s.drop p);rw[List.length_drop]at this;unfold Al;omega
theorem D0 {s:List UInt8} {p:Nat} {c:UInt8} (h:s[p]? =some c):s.drop p=c::s.drop (p+1):=by
 obtain⟨hlt,rfl⟩:=List.getElem?_eq_some_iff.1 h;exact List.drop_eq_getElem_cons hlt
theorem Ou {s:List UInt8} {p:Nat} {c:UInt8} (h:s[p]? =some c) (hb:D5 c=true):Al s p=Al s (p+1):=by
 unfold Al;rw[D0 h,blanks,if_pos hb];omega
theorem Ov {s:List UInt8} {p:Nat} {c:UInt8} (h:s[p]? =some c) (hb:D5 c=false):Al s p=p:=by
 unfold Al;rw[D0 h,blanks,if_neg (by rw[hb];decide)];rfl
theorem Rv {s:List UInt8} {p:Nat} (h:s.length<=p):Al s p=p:=by
 unfold Al;rw[List.drop_eq_nil_of_le h];rfl
theorem Age (s:List UInt8) (p:Nat): ∀c,s[Al s p]? =some c->D5 c=false:=by
 unfold Al;have key: ∀(l:List UInt8) c,l[blanks l]? =some c->D5 c=false:=by
  intro l
  induction l with
  |nil=>intro c h;simp at h
  |cons x r ih=>
   intro c h;unfold blanks at h
   split at h
   . rename_i hb;rw[List.getElem?_cons_succ]at h;exact ih c h
   . rename_i hb;simp only[List.getElem?_cons_zero,Option.some.injEq]at h;subst h;simpa using hb
 intro c h;exact key (s.drop p) c (by rw[List.getElem?_drop];exact h)
theorem Fr (s:List UInt8) (p:Nat):Al s (Al s p)=Al s p:=by
 cases e:s[Al s p]? with
 |none=>exact Rv (by simpa using e)
 |some c=>exact Ov e (Age s p c e)
def Cx (c:UInt8):Bool:=decide (48<=c.toNat/\c.toNat<=57)
def Uh:List UInt8->Nat
 | []=>0
 |c::r=>if Cx c=true then Uh r+1 else 0
theorem Aa4: ∀l:List UInt8,Uh l<=l.length
 | []=>Nat.le_refl _
 |c::r=>by
  unfold Uh
  split
  . have:=Aa4 r;simp only[List.length_cons];omega
  . exact Nat.zero_le _
def Ch (s:List UInt8) (p:Nat):Nat:=p+Uh (s.drop p)
theorem Od (s:List UInt8) (p:Nat):p<=Ch s p:=Nat.le_add_right _ _
theorem Oe {s:List UInt8} {p:Nat} (h:p<=s.length):Ch s p<=s.length:=by
 have:=Aa4 (s.drop p);rw[List.length_drop]at this;unfold Ch;omega
theorem O7 {s:List UInt8} {p:Nat} {c:UInt8} (h:s[p]? =some c) (hb:Cx c=true):Ch s p=Ch s (p+1):=by
 unfold Ch;rw[D0 h,Uh,if_pos hb];omega
theorem O8 {s:List UInt8} {p:Nat} {c:UInt8} (h:s[p]? =some c) (hb:Cx c=false):Ch s p=p:=by
 unfold Ch;rw[D0 h,Uh,if_neg (by rw[hb];decide)];rfl
theorem Q9 {s:List UInt8} {p:Nat} (h:s.length<=p):Ch s p=p:=by
 unfold Ch;rw[List.drop_eq_nil_of_le h];rfl
theorem Mb (s:List UInt8) (p:Nat): ∀i c,p<=i->i<Ch s p->s[i]? =some c->Cx c=true:=by
 have key: ∀(l:List UInt8) i c,i<Uh l->l[i]? =some c->Cx c=true:=by
  intro l
  induction l with
  |nil=>intro i c h;simp[Uh]at h
  |cons x r ih=>
   intro i c h hc;unfold Uh at h
   split at h
   . rename_i hb
     cases i with
     |zero=>simp only[List.getElem?_cons_zero,Option.some.injEq]at hc;subst hc;exact hb
     |succ i=>rw[List.getElem?_cons_succ]at hc;exact ih i c (by omega) hc
   . omega
 intro i c h1 h2 hc;unfold Ch at h2;exact key (s.drop p) (i - p) c (by omega) (by rw[List.getElem?_drop,show p+(i - p)=i from by omega];exact hc)
def E8 (l:List UInt8):Nat:=l.foldl (fun a c=>a*10+(c.toNat - 48)) 0
theorem Ab2 (l:List UInt8) (c:UInt8):E8 (l++ [c])=E8 l*10+(c.toNat - 48):=by unfold E8;rw[List.foldl_append];rfl
def Et (neg:Bool) (m p q:Nat):Rd Int:=
 if neg=true then(if m=0\/9223372036854775808<m then .bad 7 p else .ok (-(m:Int)) q)else if 9223372036854775807<m then .bad 7 p else .ok (m:Int) q
def No (s:List UInt8) (p f:Nat):Rd Int:=
 if Ch s f=f then .bad 4 f
 else if s[f]? =some 48/\f+1<Ch s f then .bad 4 (f+1)
 else Et (decide (s[p]? =some 45)) (E8 ((s.drop f).take (Ch s f - f))) p (Ch s f)
def Du (s:List UInt8) (p:Nat):Rd Int:=No s p (if s[p]? =some 45 then p+1 else p)
def Me (c:UInt8):Option Nat:=
 if 48<=c.toNat/\c.toNat<=57 then some (c.toNat - 48)else if 97<=c.toNat/\c.toNat<=102 then some (c.toNat - 87)else if 65<=c.toNat/\c.toNat<=70 then some (c.toNat - 55)else none
def Km:List UInt8->Nat->Nat->Option Nat
 |_,0,n=>some n
 | [],_+1,_=>none
 |c::l,k+1,n=>match Me c with
  |none=>none
  |some d=>Km l k (16*n+d)
def C4 (l:List UInt8):Option Nat:=if l.length<6\/l[0]? ≠some 92\/l[1]? ≠some 117 then none else Km (l.drop 2) 4 0
def Fj (c:UInt8):Option Nat:=
 if c=34 then some 34 else if c=92 then some 92 else if c=47 then some 47 else if c=98 then some 8 else if c=102 then some 12 else if c=110 then some 10 else if c=114 then some 13 else if c=116 then some 9 else none
def E4 (r:Nat) (l:List UInt8):Rd Nat:=
 if r<55296\/57344<=r then .ok r 6
 else if 56320<=r then .bad 3 0
 else match C4 l with
  |none=> .bad 3 0
  |some m=>if m<56320\/57344<=m then .bad 3 0 else .ok (65536+1024*(r - 55296)+(m - 56320)) 12
def Qd (l:List UInt8):Rd Nat:=match l[1]? with
 |none=> .bad 4 0
 |some c=>match Fj c with
  |none=> .bad 4 0
  |some r=> .ok r 2
def Ex (l:List UInt8):Rd Nat:=match C4 l with
 |some r=>E4 r (l.drop 6)
 |none=>Qd l
theorem Uu {c:UInt8} {d:Nat} (h:Me c=some d):d<16:=by
 unfold Me at h
 split at h
 . simp at h;omega
 split at h
 . simp at h;omega
 split at h
 . simp at h;omega
 . cases h
theorem Aa9: ∀(k:Nat) (l:List UInt8) (n r:Nat),Km l k n=some r->r<(n+1)*16 ^ k
 |0,l,n,r,h=>by
  have:n=r:=by cases l<;>simpa[Km]using h
  subst this;simp
 |k+1, [],n,r,h=>by simp[Km]at h
 |k+1,c::l,n,r,h=>by
  simp only[Km]at h
  cases hd:Me c with
  |none=>rw[hd]at h;cases h
  |some d=>
   rw[hd]at h;have h1:=Aa9 k l _ r h;have h2:=Uu hd;have h3:(16*n+d+1)*16 ^ k<=((n+1)*16)*16 ^ k:=Nat.mul_le_mul_right _ (by omega);rw[Nat.pow_succ,Nat.mul_comm (16 ^ k) 16,<-Nat.mul_assoc];omega
theorem Jj {l:List UInt8} {r:Nat} (h:C4 l=some r):r<65536/\6<=l.length:=by
 unfold C4 at h
 split at h
 . cases h
 . rename_i hn;have:=Aa9 4 _ _ _ h;omega
theorem Lc {l:List UInt8} {r n:Nat} (h:Ex l=.ok r n):r<=1114111/\ ¬(55296<=r/\r<57344)/\2<=n/\n<=l.length:=by
 unfold Ex at h
 cases hu:C4 l with
 |some u=>
  rw[hu]at h;obtain⟨h1,h2⟩:=Jj hu;simp only[E4]at h
  split at h
  . simp only[Rd.ok.injEq]at h;omega
  split at h
  . cases h
  cases hm:C4 (l.drop 6)with
  |none=>rw[hm]at h;cases h
  |some m=>
   rw[hm]at h;obtain⟨h3,h4⟩:=Jj hm;rw[List.length_drop]at h4;simp only at h
   split at h
   . cases h
   . simp only[Rd.ok.injEq]at h;omega
 |none=>
  rw[hu]at h;simp only[Qd]at h
  cases hc:l[1]? with
  |none=>rw[hc]at h;cases h
  |some c=>
   rw[hc]at h;have hl:=(List.getElem?_eq_some_iff.1 hc).1;simp only at h
   cases he:Fj c with
   |none=>rw[he]at h;cases h
   |some x=>
    rw[he]at h;simp only[Rd.ok.injEq]at h;have:x<=92:=by
     unfold Fj at he
     repeat' split at he
     all_goals first|(simp at he;omega)|cases he
    omega
def E6:Nat->List UInt8->Nat->List UInt8->Rd (List UInt8)
 |0,_,i,_=> .bad 4 i
 |f+1,s,i,out=>match s[i]? with
  |none=> .bad 4 i
  |some c=>
   if c=34 then .ok out (i+1)
   else if c.toNat<32 then .bad 4 i
   else if c=92 then(match Ex (s.drop i)with
    | .bad e _=> .bad e i
    | .ok r n=>E6 f s (i+n) (out++Lib.encodeRune (r:Int)))
   else if(Lib.decodeL (s.drop i)).1=65533/\(Lib.decodeL (s.drop i)).2=1 then .bad 3 i
   else E6 f s (i+(Lib.decodeL (s.drop i)).2) (out++(s.drop i).take (Lib.decodeL (s.drop i)).2)
def Cv (s:List UInt8) (p:Nat):Rd (List UInt8):=if s[p]? =some 34 then E6 (s.length - p) s (p+1) []else .bad 4 p
theorem Zc {s:List UInt8} {i:Nat} (h:i<s.length):i+(Lib.decodeL (s.drop i)).2<=s.length:=by
 have:=Lib.decodeL_le (s.drop i) (by intro e;have:=congrArg List.length e;rw[List.length_drop]at this;simp at this;omega);rw[List.length_drop]at this;omega
def Rd.within {α:Type} (p n:Nat):Rd α->Prop
 | .ok _ q=>p<q/\q<=n
 | .bad e q=>p<=q/\q<=n/\1<=e/\e<=18
theorem Py: ∀(f:Nat) (s:List UInt8) (i:Nat) (out:List UInt8),i<=s.length->(E6 f s i out).within i s.length
 |0,s,i,out,h=>⟨Nat.le_refl _,h,by decide,by decide⟩
 |f+1,s,i,out,h=>by
  unfold E6
  cases hc:s[i]? with
  |none=>exact⟨Nat.le_refl _,h,by decide,by decide⟩
  |some c=>
   have hi:=(List.getElem?_eq_some_iff.1 hc).1;simp only;have step: ∀j o,i<j->j<=s.length->(E6 f s j o).within i s.length:=by
    intro j o h1 h2;have:=Py f s j o h2
    cases hr:E6 f s j o with
    |ok a q=>rw[hr]at this;exact⟨by have:=this.1;omega,this.2⟩
    |bad e q=>rw[hr]at this;exact⟨by have:=this.1;omega,this.2⟩
   split
   . exact⟨by omega,by omega⟩
   split
   . exact⟨Nat.le_refl _,h,by decide,by decide⟩
   split
   . cases he:Ex (s.drop i)with
     |bad e q=>
      refine⟨Nat.le_refl _,h, ?_⟩;unfold Ex E4 Qd at he
      repeat' split at he
      all_goals first|(simp only[Rd.bad.injEq]at he;omega)|cases he
     |ok r n=>
      have:=Lc he;rw[List.length_drop]at this;exact step _ _ (by omega) (by omega)
   split
   . exact⟨Nat.le_refl _,h,by decide,by decide⟩
   . exact step _ _ (by have:=Lib.decodeL_width (s.drop i);omega) (Zc hi)
theorem D8 {s:List UInt8} {p:Nat} (h:p<=s.length):(Cv s p).within p s.length:=by
 unfold Cv
 split
 . rename_i hc;have hi:=(List.getElem?_eq_some_iff.1 hc).1;have:=Py (s.length - p) s (p+1) [] (by omega)
   cases hr:E6 (s.length - p) s (p+1) []with
   |ok a q=>rw[hr]at this;exact⟨by have:=this.1;omega,this.2⟩
   |bad e q=>rw[hr]at this;exact⟨by have:=this.1;omega,this.2⟩
 . exact⟨Nat.le_refl _,h,by decide,by decide⟩
theorem J7 {s:List UInt8} {p:Nat} (h:p<s.length):(Du s p).within p s.length:=by
 have hf:p<=(if s[p]? =some 45 then p+1 else p)/\(if s[p]? =some 45 then p+1 else p)<=s.length:=by split<;>omega
 have h1:=Od s (if s[p]? =some 45 then p+1 else p);have h2:=Oe hf.2;unfold Du;generalize (if s[p]? =some 45 then p+1 else p)=F at hf h1 h2 ⊢;unfold No Et;generalize Ch s F=Q at h1 h2 ⊢
 repeat' split
 all_goals(unfold Rd.within;simp only;omega)
theorem Ct {s:List UInt8} {p:Nat} {c:UInt8} (h:s[p]? =some c):p<s.length:=(List.getElem?_eq_some_iff.1 h).1
end Go.Proofs.YtkmcjfkokoidcaaGreatDoor
