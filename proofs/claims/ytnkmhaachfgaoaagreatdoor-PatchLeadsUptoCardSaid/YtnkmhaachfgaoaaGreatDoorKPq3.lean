/- Parts: Why a value may not be: the program's function and the reference's, held against one plain function. Condition: texts shorter than 2^63. -/
import Derived.Laws.AppendOwn
import Derived.Lib.Builder
import Derived.Test.YtnkmhaachfgaoaaGreatDoorZPqShelf
import Derived.IntWalk
import Derived.Lib.SmallJoins
import Derived.Test.YtnkmhaachfgaoaaGreatDoorKPq1
import Derived.Test.YtnkmhaachfgaoaaGreatDoorKPq2
set_option maxHeartbeats 20000000
namespace Go.Proofs.YtnkmhaachfgaoaaGreatDoor
open Go.RowKit
def Iu (w:World) (B:Nat):List Val->List Value->Prop
 | [],ns=>ns= []
 |v::r,ns=> ∃cs rest,ns=cs++rest/\Ab w B v cs/\Iu w B r rest
theorem Ab.len {w:World} {B:Nat} {v:Val} {cs:List Value} (h:Ab w B v cs):cs.length=6/\ ∀u ∈ cs,u.oneCell'=true:=by
 obtain⟨k,b,n,t,l,o⟩:=v;simp only[Ab]at h;obtain⟨la,lc,oa,oc,rfl,_,_⟩:=h;refine⟨rfl,fun u hu=> ?_⟩;simp only[List.mem_cons,List.not_mem_nil,or_false]at hu;rcases hu with rfl|rfl|rfl|rfl|rfl|rfl<;>rfl
theorem Iu.len {w:World} {B:Nat}: ∀{l:List Val} {ns:List Value},Iu w B l ns->ns.length=l.length*6/\ ∀u ∈ ns,u.oneCell'=true
 | [],ns,h=>by
   have:ns= []:=h;subst this;exact⟨rfl,fun u hu=>by cases hu⟩
 |v::r,ns,h=>by
  obtain⟨cs,rest,rfl,h1,h2⟩:=h;obtain⟨a1,a2⟩:=h1.len;obtain⟨b1,b2⟩:=Iu.len h2;refine⟨by rw[List.length_append,a1,b1,List.length_cons];omega,fun u hu=> ?_⟩;rcases List.mem_append.1 hu with hu|hu
  . exact a2 u hu
  . exact b2 u hu
theorem Aj.row {w:World} {B:Nat}: ∀{l:List Val} {g off:Nat},Aj w B l g off-> ∃ns,Iu w B l ns/\ ∀j u,ns[j]? =some u->w.cell? ⟨g,off+j,none⟩=some u
 | [],_,_,_=>⟨[],rfl,fun j u h=>by simp at h⟩
 |v::r,g,off,h=>by
  simp only[Aj]at h;obtain⟨⟨cs,h1,h2⟩,h3⟩:=h;obtain⟨ns,h4,h5⟩:=Aj.row h3;refine⟨cs++ns,⟨cs,ns,rfl,h1,h4⟩,fun j u hu=> ?_⟩;have hl:=h1.len.1;by_cases hj:j<6
  . rw[List.getElem?_append_left (by omega)]at hu;exact h2 j u hu
  . rw[List.getElem?_append_right (by omega),hl]at hu;have:=h5 (j - 6) u hu
    rwa [show off+6+(j - 6)=off+j from by omega]at this
theorem Iu.holds {w w':World} {B B':Nat} (hk: ∀v cs,Ab w B v cs->Ab w' B' v cs) {g:Nat}: ∀{l:List Val} {ns:List Value} {off:Nat},Iu w B l ns->(∀j u,ns[j]? =some u->w'.cell? ⟨g,off+j,none⟩=some u)->Aj w' B' l g off
 | [],_,_,_,_=>by simp[Aj]
 |v::r,ns,off,h,hc=>by
  obtain⟨cs,rest,rfl,h1,h2⟩:=h;have hl:=h1.len.1;simp only[Aj];refine⟨⟨cs,hk v cs h1,fun j u hu=>hc j u ?_⟩,Iu.holds hk h2 (fun j u hu=> ?_)⟩
  . have:=(List.getElem?_eq_some_iff.1 hu).1;rw[List.getElem?_append_left this];exact hu
  . rw[show off+6+j=off+(6+j)from by omega];refine hc (6+j) u ?_;rw[List.getElem?_append_right (by omega),hl,show 6+j - 6=j from by omega];exact hu
theorem Iu.snoc {w:World} {B:Nat} {v:Val} {cs:List Value} (hv:Ab w B v cs): ∀{l:List Val} {ns:List Value},Iu w B l ns->Iu w B (l++ [v]) (ns++cs)
 | [],ns,h=>by
   have:ns= []:=h;subst this;exact⟨cs, [],by simp,hv,rfl⟩
 |x::r,ns,h=>by
  obtain⟨c1,rest,rfl,h1,h2⟩:=h;exact⟨c1,rest++cs,by simp,h1,Iu.snoc hv h2⟩
def within:Val->List Val
 | .mk k _ _ _ l o=>if k=5 then l else if k=6 then o.map (·.2)else []
theorem Yx {cs:List Value} (h:cs.length=6): ∃c0 c1 c2 c3 c4 c5,cs= [c0,c1,c2,c3,c4,c5]:=by
 match cs,h with
 | [c0,c1,c2,c3,c4,c5],_=>exact⟨_,_,_,_,_,_,rfl⟩
def Mo (w w':World) (v:Val) (cs:List Value):Prop:= ∀w'':World,w'.heap.size<=w''.heap.size->(∀p:Addr,w.heap.size<=p.block->p.block<w'.heap.size->w''.cell? p=w'.cell? p)->Ab w'' w'.heap.size v cs
theorem Iu.more {w:World} {B B':Nat} (h:B<=B'): ∀{l:List Val} {ns:List Value},Iu w B l ns->Iu w B' l ns
 | [],_,e=>e
 |_::_,_,⟨cs,rest,e,h1,h2⟩=>⟨cs,rest,e,Ab.more h _ _ h1,Iu.more h h2⟩
theorem Ahe (key:ByteArray) {cs:List Value} (h: ∀u ∈ cs,u.oneCell'=true): ∀u ∈ Value.string key::cs,u.oneCell'=true:=by
 intro u hu;rcases List.mem_cons.1 hu with rfl|hu
 . rfl
 . exact h u hu
theorem Mq {w:World} {g:Nat} {a0 a1 a2 a3 a4 a5:Value} (h:w.heap[g]? =some (.cells #[a0,a1,a2,a3,a4,a5] 40 (0,0))):
 w.cell? ⟨g,0,none⟩=some a0/\w.cell? ⟨g,1,none⟩=some a1/\w.cell? ⟨g,2,none⟩=some a2/\w.cell? ⟨g,3,none⟩=some a3/\w.cell? ⟨g,4,none⟩=some a4/\w.cell? ⟨g,5,none⟩=some a5:=by
 refine⟨?_, ?_, ?_, ?_, ?_, ?_⟩<;>(rw[Lib.cell_of_heap h];rfl)
def Fz (w:World) (B:Nat):List (ByteArray×Val)->List Value->Prop
 | [],ns=>ns= []
 |(key,v)::r,ns=> ∃cs rest,ns=.string key::(cs++rest)/\Ab w B v cs/\Fz w B r rest
theorem Fz.more {w:World} {B B':Nat} (h:B<=B'): ∀{l:List (ByteArray×Val)} {ns:List Value},Fz w B l ns->Fz w B' l ns
 | [],_,e=>e
 |(_,_)::_,_,⟨cs,rest,e,h1,h2⟩=>⟨cs,rest,e,Ab.more h _ _ h1,Fz.more h h2⟩
theorem Fz.holds {w:World} {B:Nat} {g:Nat}: ∀{l:List (ByteArray×Val)} {ns:List Value} {off:Nat},Fz w B l ns->(∀j u,ns[j]? =some u->w.cell? ⟨g,off+j,none⟩=some u)->Ak w B l g off
 | [],_,_,_,_=>by simp[Ak]
 |(key,v)::r,ns,off,h,hc=>by
  obtain⟨cs,rest,rfl,h1,h2⟩:=h;have hl:=h1.len.1;simp only[Ak,J5];refine⟨⟨hc 0 _ rfl,cs,h1,fun j u hu=> ?_⟩,Fz.holds h2 (fun j u hu=> ?_)⟩
  . have h3:=(List.getElem?_eq_some_iff.1 hu).1;rw[show off+1+j=off+(j+1)from by omega];refine hc (j+1) u ?_;rw[List.getElem?_cons_succ,List.getElem?_append_left h3];exact hu
  . rw[show off+7+j=off+(6+j+1)from by omega];refine hc (6+j+1) u ?_;rw[List.getElem?_cons_succ,List.getElem?_append_right (by omega),hl,show 6+j - 6=j from by omega];exact hu
theorem Fz.snoc {w:World} {B:Nat} {key:ByteArray} {v:Val} {cs:List Value} (hv:Ab w B v cs): ∀{l:List (ByteArray×Val)} {ns:List Value},Fz w B l ns->Fz w B (l++ [(key,v)]) (ns++(.string key::cs))
 | [],ns,h=>by
   have:ns= []:=h;subst this;exact⟨cs, [],by simp,hv,rfl⟩
 |(k',x)::r,ns,h=>by
  obtain⟨c1,rest,rfl,h1,h2⟩:=h;exact⟨c1,rest++(.string key::cs),by simp,h1,Fz.snoc hv h2⟩
theorem Nw:(Tryz.prog.info? 40).map (fun i=>(i.zero,i.size,i.bytes))=some (some (.agg #[.int .i64 0,.bool false,.int .i64 0,.string ⟨#[]⟩,.slice none 0 0,.slice none 0 0]),6,88):=by kernel_rfl
theorem Q9:(Tryz.prog.info? 94).map (fun i=>(i.zero,i.size,i.bytes))=some (some (.agg #[.string ⟨#[]⟩,.int .i64 0,.bool false,.int .i64 0,.string ⟨#[]⟩,.slice none 0 0,.slice none 0 0]),7,104):=by kernel_rfl
theorem Fx (w:World) (b i:Nat) (V:Value) {c:Nat} (h:c≠b):(w.setCell ⟨b,i,none⟩ V).heap[c]? =w.heap[c]? :=by
 simp only[World.setCell,Array.getElem?_modify];rw[if_neg (fun e=>h e.symm)]
theorem Fz.app {w:World} {B:Nat}: ∀{a b:List (ByteArray×Val)} {ns ms:List Value},Fz w B a ns->Fz w B b ms->Fz w B (a++b) (ns++ms)
 | [],b,ns,ms,h,h'=>by
   have:ns= []:=h;subst this;exact h'
 |(k,v)::r,b,ns,ms,⟨cs,rest,e,h1,h2⟩,h'=>by
  subst e;exact⟨cs,rest++ms,by simp,h1,Fz.app h2 h'⟩
theorem Fz.len {w:World} {B:Nat}: ∀{l:List (ByteArray×Val)} {ns:List Value},Fz w B l ns->ns.length=l.length*7/\ ∀u ∈ ns,u.oneCell'=true
 | [],ns,h=>by
   have:ns= []:=h;subst this;exact⟨rfl,fun u hu=>by cases hu⟩
 |(k,v)::r,ns,⟨cs,rest,e,h1,h2⟩=>by
  subst e;obtain⟨a1,a2⟩:=h1.len;obtain⟨b1,b2⟩:=Fz.len h2;refine⟨by rw[List.length_cons,List.length_append,a1,b1,List.length_cons];omega,fun u hu=> ?_⟩;rcases List.mem_cons.1 hu with rfl|hu
  . rfl
  rcases List.mem_append.1 hu with hu|hu
  . exact a2 u hu
  . exact b2 u hu
theorem Fz.split {w:World} {B:Nat}: ∀{l:List (ByteArray×Val)} {ns:List Value} (k:Nat),Fz w B l ns->Fz w B (l.take k) (ns.take (k*7))/\Fz w B (l.drop k) (ns.drop (k*7))
 | [],ns,k,h=>by
   have:ns= []:=h;subst this;simp[Fz]
 |(key,v)::r,ns,0,h=>by
  simp only[List.take_zero,Nat.zero_mul,List.drop_zero];exact⟨rfl,h⟩
 |(key,v)::r,ns,k+1,⟨cs,rest,e,h1,h2⟩=>by
  subst e;obtain⟨a,b⟩:=Fz.split k h2;have hl:=h1.len.1;have e1:(Value.string key::(cs++rest)).take ((k+1)*7)=.string key::(cs++rest.take (k*7)):=by
   rw[show(k+1)*7=(6+k*7)+1 from by omega,List.take_succ_cons,List.take_append,hl,List.take_of_length_le (by omega),show 6+k*7 - 6=k*7 from by omega]
  have e2:(Value.string key::(cs++rest)).drop ((k+1)*7)=rest.drop (k*7):=by
   rw[show(k+1)*7=(6+k*7)+1 from by omega,List.drop_succ_cons,List.drop_append,hl,List.drop_eq_nil_of_le (by omega),show 6+k*7 - 6=k*7 from by omega,List.nil_append]
  rw[e1,e2];exact⟨⟨cs,rest.take (k*7),rfl,h1,a⟩,b⟩
theorem Cu: ∀(a b:List (ByteArray×Val)),Ac (a++b)=Ac a+Ac b
 | [],b=>by simp[Ac]
 |x::r,b=>by simp only[List.cons_append,Ac,Cu r b];omega
def Bn (a b:ByteArray):Bool:=Op.bytesLess a.toList b.toList
def Cy (k:ByteArray):List (ByteArray×Val)->Nat
 | []=>0
 |p::r=>if Bn p.1 k then Cy k r+1 else 0
def Bm (k:ByteArray) (acc:List (ByteArray×Val)):Bool:=(acc[Cy k acc]?).any fun p=>p.1.toList==k.toList
def Adb (m:ByteArray×Val) (acc:List (ByteArray×Val)):List (ByteArray×Val):=acc.take (Cy m.1 acc)++([m]++acc.drop (Cy m.1 acc))
def Dn:List (ByteArray×Val)->List (ByteArray×Val)->Option (List (ByteArray×Val))
 | [],acc=>some acc
 |m::r,acc=>if Bm m.1 acc then none else Dn r (Adb m acc)
theorem Qo (k:ByteArray): ∀acc,Cy k acc<=acc.length
 | []=>Nat.zero_le _
 |p::r=>by
  have:=Qo k r;simp only[Cy,List.length_cons]
  split<;>omega
theorem Acj (m:ByteArray×Val) (acc:List (ByteArray×Val)):Ac (Adb m acc)=Ac acc+Dg m:=by
 have h:=congrArg Ac (List.take_append_drop (Cy m.1 acc) acc);rw[Cu]at h;simp only[Adb,Cu,Ac];omega
theorem Pi: ∀{l acc o:List (ByteArray×Val)},Dn l acc=some o->Ac o=Ac acc+Ac l
 | [],acc,o,h=>by
   simp only[Dn,Option.some.injEq]at h;subst h;simp[Ac]
 |m::r,acc,o,h=>by
  simp only[Dn]at h;by_cases hh:Bm m.1 acc=true
  . rw[if_pos hh]at h;cases h
  . rw[if_neg hh]at h;rw[Pi h,Acj];simp only[Ac];omega
theorem El: ∀x:List UInt8,Op.bytesLess x x=false
 | []=>rfl
 |a::x=>by simp[Op.bytesLess,El x,UInt8.lt_irrefl]
theorem K8: ∀{x y z:List UInt8},Op.bytesLess x y=true->Op.bytesLess y z=true->Op.bytesLess x z=true
 |_, [],_,h,_=>by cases ‹List UInt8› <;>simp[Op.bytesLess]at h
 |_,_::_, [],_,h=>by simp[Op.bytesLess]at h
 | [],_::_,_::_,_,_=>rfl
 |a::x,b::y,c::z,h,k=>by
  simp only[Op.bytesLess,Bool.or_eq_true,Bool.and_eq_true,decide_eq_true_eq,beq_iff_eq]at h k ⊢;rcases h with h|⟨rfl,h⟩<;>rcases k with k|⟨rfl,k⟩
  . exact .inl (UInt8.lt_trans h k)
  . exact .inl h
  . exact .inl k
  . exact .inr ⟨rfl,K8 h k⟩
theorem Up: ∀(x y:List UInt8),Op.bytesLess x y=true\/x=y\/Op.bytesLess y x=true
 | [], []=> .inr (.inl rfl)
 | [],_::_=> .inl rfl
 |_::_, []=> .inr (.inr rfl)
 |a::x,b::y=>by
  simp only[Op.bytesLess,Bool.or_eq_true,Bool.and_eq_true,decide_eq_true_eq,beq_iff_eq];rcases Nat.lt_trichotomy a.toNat b.toNat with h|h|h
  . exact .inl (.inl (UInt8.lt_iff_toNat_lt.2 h))
  . have hab:a=b:=UInt8.toNat_inj.1 h;subst hab;rcases Up x y with h|h|h
    . exact .inl (.inr ⟨rfl,h⟩)
    . exact .inr (.inl (by rw[h]))
    . exact .inr (.inr (.inr ⟨rfl,h⟩))
  . exact .inr (.inr (.inl (UInt8.lt_iff_toNat_lt.2 h)))
theorem Fk {a b:ByteArray} (h:a.toList=b.toList):a=b:=by
 rw[Lib.toList_data,Lib.toList_data]at h;exact ByteArray.ext (Array.ext' h)
theorem Dc (a:ByteArray):Bn a a=false:=El _
theorem Bw {a b c:ByteArray} (h:Bn a b=true) (k:Bn b c=true):Bn a c=true:=K8 h k
theorem Fb (a b:ByteArray):Bn a b=true\/a=b\/Bn b a=true:=by
 rcases Up a.toList b.toList with h|h|h
 . exact .inl h
 . exact .inr (.inl (Fk h))
 . exact .inr (.inr h)
theorem Nz {a b:ByteArray} (h:Bn a b=true):Bn b a=false:=by
 cases e:Bn b a with
 |false=>rfl
 |true=>have:=Bw h e;rw[Dc]at this;cases this
def Az (l:List (ByteArray×Val)):Prop:=l.Pairwise fun a b=>Bn a.1 b.1=true
theorem Td (k:ByteArray): ∀{acc:List (ByteArray×Val)},Az acc->Bm k acc=false->(∀p ∈ acc.take (Cy k acc),Bn p.1 k=true)/\(∀p ∈ acc.drop (Cy k acc),Bn k p.1=true)
 | [],_,_=>by simp
 |q::r,ha,hh=>by
  obtain⟨h1,h2⟩:=List.pairwise_cons.1 ha;by_cases hq:Bn q.1 k=true
  . have hh':Bm k r=false:=by
     unfold Bm at hh ⊢;simpa only[Cy,if_pos hq,List.getElem?_cons_succ]using hh
    obtain⟨a,b⟩:=Td k h2 hh';simp only[Cy,if_pos hq,List.take_succ_cons,List.drop_succ_cons];refine⟨fun p hp=> ?_,b⟩;rcases List.mem_cons.1 hp with rfl|hp
    . exact hq
    . exact a p hp
  . simp only[Cy,if_neg hq,List.take_zero,List.drop_zero];refine⟨fun p hp=>(by cases hp), ?_⟩;have hne:q.1≠k:=by
     intro e;unfold Bm at hh;simp only[Cy,if_neg hq,List.getElem?_cons_zero,Option.any_some]at hh;rw[e]at hh;simp at hh
    have hkq:Bn k q.1=true:=by
     rcases Fb q.1 k with h|h|h
     . exact absurd h hq
     . exact absurd h hne
     . exact h
    intro p hp;rcases List.mem_cons.1 hp with rfl|hp
    . exact hkq
    . exact Bw hkq (h1 p hp)
theorem Af6 {m:ByteArray×Val} {acc:List (ByteArray×Val)} (ha:Az acc) (hh:Bm m.1 acc=false):Az (Adb m acc):=by
 obtain⟨h1,h2⟩:=Td m.1 ha hh;have h3:Az (acc.take (Cy m.1 acc)++acc.drop (Cy m.1 acc)):=by rw[List.take_append_drop];exact ha
 obtain⟨h4,h5,h6⟩:=List.pairwise_append.1 h3;refine List.pairwise_append.2 ⟨h4,List.pairwise_cons.2 ⟨h2,h5⟩,fun a ha b hb=> ?_⟩;rcases List.mem_cons.1 hb with rfl|hb
 . exact h1 a ha
 . exact h6 a ha b hb
theorem T2 (m:ByteArray×Val) (acc:List (ByteArray×Val)):(Adb m acc).Perm (m::acc):=by
 have h:(acc.take (Cy m.1 acc)++([m]++acc.drop (Cy m.1 acc))).Perm ([m]++(acc.take (Cy m.1 acc)++acc.drop (Cy m.1 acc))):=by
  rw[<-List.append_assoc,<-List.append_assoc];exact List.Perm.append_right _ List.perm_append_comm
 rw[List.take_append_drop]at h;exact h
theorem Ae3 {k:ByteArray} {acc:List (ByteArray×Val)} (h:Bm k acc=true): ∃v,(k,v) ∈ acc:=by
 unfold Bm at h
 cases e:acc[Cy k acc]? with
 |none=>rw[e]at h;cases h
 |some p=>
  rw[e]at h;have hk:p.1=k:=Fk (by simpa using h);exact⟨p.2,by rw[<-hk];exact List.mem_of_getElem? e⟩
theorem Lg: ∀{l acc o:List (ByteArray×Val)},Dn l acc=some o->Az acc->Az o/\o.Perm (l++acc)
 | [],acc,o,h,ha=>by
   simp only[Dn,Option.some.injEq]at h;subst h;exact⟨ha,List.Perm.refl _⟩
 |m::r,acc,o,h,ha=>by
  simp only[Dn]at h;by_cases hh:Bm m.1 acc=true
  . rw[if_pos hh]at h;cases h
  . rw[if_neg hh]at h;obtain⟨h1,h2⟩:=Lg h (Af6 ha (by simpa using hh));exact⟨h1,h2.trans ((List.Perm.append_left r (T2 m acc)).trans List.perm_middle)⟩
theorem Wl {l:List (ByteArray×Val)} (h:Az l):(l.map (·.1)).Nodup:=by
 rw[List.Nodup,List.pairwise_map];exact h.imp fun hab e=>by rw[e,Dc]at hab;cases hab
theorem Pj: ∀{l acc:List (ByteArray×Val)},Dn l acc=none-> ¬((l++acc).map (·.1)).Nodup
 | [],acc,h=>by simp[Dn]at h
 |m::r,acc,h=>by
  simp only[Dn]at h;by_cases hh:Bm m.1 acc=true
  . obtain⟨v,hv⟩:=Ae3 hh;intro hn;rw[List.cons_append,List.map_cons,List.nodup_cons]at hn;exact hn.1 (List.mem_map.2 ⟨(m.1,v),List.mem_append.2 (.inr hv),rfl⟩)
  . rw[if_neg hh]at h;intro hn;refine Pj h ?_;have hp:((r++Adb m acc).map (·.1)).Perm ((m::r++acc).map (·.1)):=((List.Perm.append_left r (T2 m acc)).trans List.perm_middle).map _;exact hp.nodup_iff.2 hn
theorem Qn: ∀{a b:List (ByteArray×Val)},Az a->Az b->a.Perm b->a=b
 | [],b,_,_,h=>(List.Perm.nil_eq h)
 |x::a, [],_,_,h=>by have:=h.length_eq;simp at this
 |x::a,y::b,ha,hb,h=>by
  obtain⟨h1,h2⟩:=List.pairwise_cons.1 ha;obtain⟨h3,h4⟩:=List.pairwise_cons.1 hb;have hxy:x=y:=by
   rcases List.mem_cons.1 (h.mem_iff.1 (List.mem_cons_self (a:=x)))with e|hx
   . exact e
   . rcases List.mem_cons.1 (h.mem_iff.2 (List.mem_cons_self (a:=y)))with e|hy
     . exact e.symm
     . have p:=h3 x hx;have q:=h1 y hy;rw[Nz p]at q
       cases q
  subst hxy;rw[Qn h2 h4 (List.perm_cons _ |>.1 h)]
theorem Sm {l d:List (ByteArray×Val)} (hp:d.Perm l) (ha:Az d):Dn l []=some d:=by
 cases e:Dn l []with
 |none=>
  exfalso
  refine Pj e ?_;rw[List.append_nil];exact(hp.map (·.1)).nodup_iff.1 (Wl ha)
 |some o=>
  obtain⟨h1,h2⟩:=Lg e List.Pairwise.nil;rw[List.append_nil]at h2;rw[Qn ha h1 (hp.trans h2.symm)]
theorem U9 {l d:List (ByteArray×Val)} (hp:d.Perm l) (ht: ¬(d.map (·.1)).Nodup):Dn l []=none:=by
 cases e:Dn l []with
 |none=>rfl
 |some o=>
  obtain⟨h1,h2⟩:=Lg e List.Pairwise.nil;rw[List.append_nil]at h2;exact absurd ((hp.trans h2.symm).map (·.1) |>.nodup_iff.2 (Wl h1)) ht
def Cr (w:World):Prop:=
 5<=w.heap.size/\Lib.Utf8Tabs 2 3 w/\Lib.TabIs Tryz.prog w "internal/strconv.uint64pow10" .u64 Lib.pow10Tab
def A4 (s:ByteArray):Bool:=Lib.validD s.data.toList
theorem R9 (s:ByteArray) (w:World) (hs:s.size<=9223372036854775807) (hT:Cr w):
 Calls Tryz.prog 169 #[.string s] w fun e w'=>e=.returned (.bool (A4 s))/\Below w.heap.size w w':=by
 have cV:=Tryz.utf8_ValidString s w hs hT.2.1;unfold A4;generalize Lib.validD s.data.toList=V at cV ⊢;go_enter Tryz.func169,Tryz.ntmps169;go_wp2_with (go_at_call 198;refine cV.mono ?_;rintro e w' ⟨rfl,hb⟩);go_ret;exact⟨rfl,hb⟩
def leB (a b:ByteArray):Bool:=Op.bytesLess a.toList b.toList||a.toList==b.toList
mutual
def Bb:Val->Int->Int
 | .mk k b n t l o,d=>
   if Fg k b n t l.length o.length then 9 else if 64<d then 5 else if A4 t then(if Dd l (d+1)=0 then Dx o none (d+1)else Dd l (d+1))else 3
def Dd:List Val->Int->Int
 | [],_=>0
 |v::r,d=>if Bb v d=0 then Dd r d else Bb v d
def Dx:List (ByteArray×Val)->Option ByteArray->Int->Int
 | [],_,_=>0
 |p::r,last,d=>if Rf p last d=0 then Dx r (some p.1) d else Rf p last d
def Rf:ByteArray×Val->Option ByteArray->Int->Int
 |(key,v),last,d=>if A4 key then(match last with|none=>Bb v d|some q=>if leB key q then 8 else Bb v d)else 3
end
theorem D7 {k:Int} {b:Bool} {n:Int} {t:ByteArray} {la oa:Option Addr} {ln lc on oc:Nat} {B:Bool} (h:Fg k b n t ln on=B) (w:World):
 Calls Tryz.prog 179 #[.agg #[.int .i64 k,.bool b,.int .i64 n,.string t,.slice la ln lc,.slice oa on oc]] w fun e w'=>e=.returned (.bool B)/\Below w.heap.size w w':=by
 subst h;exact Ac8 _ _ _ _ _ _ _ _ _ _ _
theorem Cr.below {w w':World} (h:Cr w) (hb:Below w.heap.size w w'):Cr w':=by
 obtain⟨h5,⟨h1,h2⟩,h3⟩:=h;refine⟨Nat.le_trans h5 hb.size,⟨fun c hc=> ?_,fun i hi=>⟨?_, ?_⟩⟩,Go.Joins.tab_stays (g:=4) (by kernel_rfl) h3 hb (Nat.le_refl _)⟩
 . exact(hb.cell (p:=⟨2,c,none⟩) (by show 2<_;omega)).trans (h1 c hc)
 . exact(hb.cell (p:=⟨3,2*i,none⟩) (by show 3<_;omega)).trans (h2 i hi).1
 . exact(hb.cell (p:=⟨3,2*i+1,none⟩) (by show 3<_;omega)).trans (h2 i hi).2
theorem Et {W w1:World} (hb:Below W.heap.size W w1):(∀b o,b<W.heap.size->w1.cell? ⟨b,o,none⟩=W.cell? ⟨b,o,none⟩)/\(∀b o,b<W.heap.size->w1.frozen? ⟨b,o,none⟩=W.frozen? ⟨b,o,none⟩):=
 ⟨fun b o h=>hb.cell (p:=⟨b,o,none⟩) h,fun b o h=>hb.frozen (p:=⟨b,o,none⟩) h⟩
theorem Ch {α:Type} {l:List α} {k:Nat} {v:α} (h:l[k]? =some v):l.drop k=v::l.drop (k+1):=by
 obtain⟨hlt,rfl⟩:=List.getElem?_eq_some_iff.1 h;exact List.drop_eq_getElem_cons hlt
theorem Be {B:Nat} {a w:World} (h:Below B a w) (n:Nat):Below B a (w.drewN n):=⟨h.os,h.tape,h.output,h.size,h.block⟩
def Ah8 (v:Val):Prop:= ∀(cs:List Value) (d:Int) (w:World),Cr w->Ab w w.heap.size v cs->v.bulk<=1000000000->0<=d->d<=65->
    Calls Tryz.prog 128 #[.agg cs.toArray,.int .i64 d] w fun e w'=>e=.returned (.int .i64 (Bb v d))/\Below w.heap.size w w'
theorem X6 (b:Bool) (n:Int) (t:ByteArray) (l:List Val) (la oa:Option Addr) (lc oc:Nat) (d:Int) (w:World) (hT:Cr w) (g off:Nat) (hla:l= []\/(la=some ⟨g,off,none⟩/\g<w.heap.size/\Aj w w.heap.size l g off))
 (hb:Bc l<=1000000000) (h0:0<=d) (h64:d<=64) (IH: ∀v ∈ l,Ah8 v) (hodd:Fg 5 b n t l.length 0=false):
 Calls Tryz.prog 128 #[.agg #[.int .i64 5,.bool b,.int .i64 n,.string t,.slice la l.length lc,.slice oa 0 oc],.int .i64 d] w fun e w'=>e=.returned (.int .i64 (Dd l (d+1)))/\Below w.heap.size w w':=by
 have hlen:l.length<=1000000000:=by have:=Ct l;omega
 go_enter Tryz.func128,Tryz.ntmps128;go_wp2_with (go_at_call 179;refine(D7 hodd _).mono ?_;rintro e w1 ⟨rfl,hb1⟩;obtain⟨hc1,hf1⟩:=Et hb1;have hz1:=hb1.size;simp only[World.size_alloc]at hz1);have hbw1:Below w.heap.size w w1:=((Below.refl _ _).alloc (Nat.le_refl _) _).trans (hb1.mono (by simp));have H:Hid (Dd (l.drop 0) (d+1)=Dd l (d+1)):=by rw[List.drop_zero];exact rfl
 clear hb1 hodd hc1 hf1 hz1;go_loopw [30] (fun i wr=> ∃k:Nat,k<=l.length/\i=.int .i64 k/\Hid (Dd (l.drop k) (d+1)=Dd l (d+1))/\Below w.heap.size w wr) (fun i _=>l.length - (intOf i).toNat)
 case atStart=>exact⟨0,Nat.zero_le _,rfl,H,hbw1⟩
 case round=>
  obtain⟨k,hk,rfl,hm,hbw⟩:=hrel;clear H hbw1;by_cases hlt:k<l.length
  . obtain⟨rfl,hg,hL⟩:la=some ⟨g,off,none⟩/\g<w.heap.size/\Aj w w.heap.size l g off:=by
     rcases hla with rfl|h
     . simp at hlt
     . exact h
    obtain⟨v,hv⟩: ∃v,l[k]? =some v:=⟨_,List.getElem?_eq_getElem hlt⟩;have hdrop:l.drop k=v::l.drop (k+1):=Ch hv;have hmem:v ∈ l:=List.mem_of_getElem? hv;have hbv:=Da hmem;have IHv:=qz (IH v hmem);have hm':=hm.out;rw[hdrop]at hm';simp only[Dd]at hm';clear hm hdrop hmem IH;obtain⟨m,hmv⟩: ∃m,Bb v (d+1)=m:=⟨_,rfl⟩;rw[hmv]at hm';obtain⟨Hmv,Hm⟩:=hid2 hmv hm';clear hm' hmv;obtain⟨k',b',n',t',l',o'⟩:=v;obtain⟨la',lc',oa',oc',hvs,c0,c1,c2,c3,c4,c5⟩:=(hL.below hg hbw).six hv;clear hla hL hv;have hz:=hbw.size;by_cases hm0:m=0
    . have Hk:Hid (Dd (l.drop (k+1)) (d+1)=Dd l (d+1)):=by
       have:=Hm.out
       rwa [if_pos hm0]at this
      subst hm0;clear Hm;go_wp2_with (go_at_call 128;refine(IHv.out _ (d+1) _ (hT.below (hbw.alloc hz _)) (Ab.more (by simp;omega) _ _ (hvs.below ((Below.refl _ _).alloc hz _))) (by omega) (by omega) (by omega)).mono ?_;rintro e w2 ⟨he,hb2⟩;rw[Hmv.out]at he;subst he;have hbw2:Below w.heap.size w w2:=(hbw.alloc hz _).trans (hb2.mono (by simp;omega));obtain⟨hc2,hf2⟩:=Et hb2;have hz2:=hb2.size;simp only[World.size_alloc]at hz2);go_roundw
      case rel=>exact⟨k+1,by omega,by go_num,Hk,hbw2⟩
      case measure=>simp[intOf];omega
    . have Hk:Hid (m=Dd l (d+1)):=by
       have:=Hm.out
       rwa [if_neg hm0]at this
      clear Hm;have hm1:(m==0)=false:=by simpa using hm0
      have hm2:(m != 0)=true:=by simpa using hm0
      go_wp2_with (go_at_call 128;refine(IHv.out _ (d+1) _ (hT.below (hbw.alloc hz _)) (Ab.more (by simp;omega) _ _ (hvs.below ((Below.refl _ _).alloc hz _))) (by omega) (by omega) (by omega)).mono ?_;rintro e w2 ⟨he,hb2⟩;rw[Hmv.out]at he;subst he;have hbw2:Below w.heap.size w w2:=(hbw.alloc hz _).trans (hb2.mono (by simp;omega));obtain⟨hc2,hf2⟩:=Et hb2;have hz2:=hb2.size;simp only[World.size_alloc]at hz2);go_ret;exact⟨by rw[<-Hk.out];rfl,hbw2⟩
  . obtain rfl:k=l.length:=by omega
    rw[List.drop_length]at hm;go_wp2;go_ret;exact⟨by rw[<-hm.out];rfl,hbw⟩
theorem Bt {s:ByteArray} {B:Bool} (h:A4 s=B) (w:World) (hs:s.size<=9223372036854775807) (hT:Cr w):
 Calls Tryz.prog 169 #[.string s] w fun e w'=>e=.returned (.bool B)/\Below w.heap.size w w':=by
 subst h;exact R9 _ _ hs hT
def Eo (o:List (ByteArray×Val)):Nat->Option ByteArray
 |0=>none
 |k+1=>(o[k]?).map (·.1)
theorem Aby (b:Bool) (n:Int) (t:ByteArray) (o:List (ByteArray×Val)) (la oa:Option Addr) (lc oc:Nat) (d:Int) (w:World) (hT:Cr w) (g off:Nat) (hoa:o= []\/(oa=some ⟨g,off,none⟩/\g<w.heap.size/\Ak w w.heap.size o g off))
 (hb:Ac o<=1000000000) (h0:0<=d) (h64:d<=64) (IH: ∀m ∈ o,Ah8 m.2) (hodd:Fg 6 b n t 0 o.length=false):
 Calls Tryz.prog 128 #[.agg #[.int .i64 6,.bool b,.int .i64 n,.string t,.slice la 0 lc,.slice oa o.length oc],.int .i64 d] w fun e w'=>e=.returned (.int .i64 (Dx o none (d+1)))/\Below w.heap.size w w':=by
 have hlen:o.length<=1000000000:=by have:=Aw o;omega
 go_enter Tryz.func128,Tryz.ntmps128;go_wp2_with (go_at_call 179;refine(D7 hodd _).mono ?_;rintro e w1 ⟨rfl,hb1⟩;obtain⟨hc1,hf1⟩:=Et hb1;have hz1:=hb1.size;simp only[World.size_alloc]at hz1);have hbw1:Below w.heap.size w w1:=((Below.refl _ _).alloc (Nat.le_refl _) _).trans (hb1.mono (by simp));have hbox1:w1.heap[w.heap.size]? =some (.cells #[.int .i64 6,.bool b,.int .i64 n,.string t,.slice la 0 lc,.slice oa o.length oc] 40 (0,0)):=by
  rw[hb1.block _ (by simp)];exact heap_alloc_new _ _
 have H:Hid (Dx (o.drop 0) (Eo o 0) (d+1)=Dx o none (d+1)):=by rw[List.drop_zero];exact rfl
 clear hb1 hodd hc1 hf1 hz1;go_loopw [47] (fun i wr=> ∃k:Nat,k<=o.length/\i=.int .i64 k/\Hid (Dx (o.drop k) (Eo o k) (d+1)=Dx o none (d+1))/\Below w.heap.size w wr/\wr.heap[w.heap.size]? =some (.cells #[.int .i64 6,.bool b,.int .i64 n,.string t,.slice la 0 lc,.slice oa o.length oc] 40 (0,0))) (fun i _=>o.length - (intOf i).toNat)
 case atStart=>exact⟨0,Nat.zero_le _,rfl,H,hbw1,hbox1⟩
 case round=>
  obtain⟨k,hk,rfl,hm,hbw,hbox⟩:=hrel;clear H hbw1 hbox1;by_cases hlt:k<o.length
  . obtain⟨rfl,hg,hL⟩:oa=some ⟨g,off,none⟩/\g<w.heap.size/\Ak w w.heap.size o g off:=by
     rcases hoa with rfl|h
     . simp at hlt
     . exact h
    obtain⟨⟨key,v⟩,hv⟩: ∃v,o[k]? =some v:=⟨_,List.getElem?_eq_getElem hlt⟩;have hdrop:o.drop k=(key,v)::o.drop (k+1):=Ch hv;have hmem:(key,v) ∈ o:=List.mem_of_getElem? hv;have hbv:=B4 hmem;simp only at hbv;have IHv:=qz (IH (key,v) hmem);have hlast:Eo o (k+1)=some key:=by simp[Eo,hv]
    have hm':=hm.out;rw[hdrop]at hm';simp only[Dx,Rf,<-hlast]at hm';clear hm hdrop hmem IH;have hbx:w.heap.size<wr.heap.size:=(Array.getElem?_eq_some_iff.1 hbox).1;have b5:wr.cell? ⟨w.heap.size,5,none⟩=some (.slice (some ⟨g,off,none⟩) o.length oc):=by rw[Lib.cell_of_heap hbox];rfl
    have hz:=hbw.size;have hLr:=hL.below hg hbw;have hgr:g<wr.heap.size:=by omega
    obtain⟨k',b',n',t',l',o'⟩:=v;obtain⟨la',lc',oa',oc',hvs,c0,c1,c2,c3,c4,c5,c6⟩:=hLr.seven hv;by_cases hval:A4 key=true
    . rw[hval]at hm';simp only[if_true]at hm';by_cases hkp:0<k
      ·
       have hlt1:k - 1<o.length:=by omega
       obtain⟨⟨q,vq⟩,hq⟩: ∃m,o[k - 1]? =some m:=⟨_,List.getElem?_eq_getElem hlt1⟩;have hlq:Eo o k=some q:=by
        obtain⟨j,rfl⟩: ∃j,k=j+1:=⟨k - 1,by omega⟩;simp only[Nat.add_sub_cancel]at hq;simp[Eo,hq]
       rw[hlq]at hm';simp only at hm';have cq:wr.cell? ⟨g,off+(k - 1)*7,none⟩=some (.string q):=(hLr.at_ hq).1;have hgd:decide (0<k)=true:=by simpa using hkp
       have hk1:(0:Int)<=(k:Int) - 1:=by omega
       have hk2:(k:Int) - 1<(o.length:Int):=by omega
       clear hlq hq hlast hL hv hLr hoa;by_cases hle:leB key q=true
       . rw[if_pos hle]at hm';unfold leB at hle;have Hm:=qz hm';clear hm';go_wp2_with (go_at_call 169;refine(Bt hval _ (by omega) (hT.below (hbw.alloc hz _))).mono ?_;rintro e w2 ⟨rfl,hb2⟩;obtain⟨hc2,hf2⟩:=Et hb2;have hz2:=hb2.size;simp only[World.size_alloc]at hz2;have hbw2:Below w.heap.size w w2:=(hbw.alloc hz _).trans (hb2.mono (by simp;omega));have hvs2:=hvs.below (((Below.refl _ wr).alloc hz (.cells #[.string key,.int .i64 k',.bool b',.int .i64 n',.string t',.slice la' l'.length lc',.slice oa' o'.length oc'] 94)).trans (hb2.mono (by simp;omega))));have x1:IntKind.i64.wrap ((k:Int) - 1)=(k:Int) - 1:=IntWalk.i64_in _ (by omega);have y1:1<=k:=by omega
         have y2:(1:Int)<=(k:Int):=by omega
         have y3:(k:Int)<(o.length:Int)+1:=by omega
         have y4:k<o.length+1:=by omega
         have y5:(k:Int)<=(o.length:Int):=by omega
         have x2:((k:Int) - 1).toNat=k - 1:=by omega
         go_quiet (fail);clear x1 x2;go_wp2;go_ret;exact⟨by rw[<-Hm.out];rfl,Be hbw2 _⟩
       . rw[if_neg hle]at hm';have hle':(Op.bytesLess key.toList q.toList||key.toList==q.toList)=false:=by simpa[leB]using hle
         obtain⟨m,hmv⟩: ∃m,Bb (.mk k' b' n' t' l' o') (d+1)=m:=⟨_,rfl⟩;rw[hmv]at hm';have Hmv:=qz hmv;clear hmv;by_cases hm0:m=0
         . rw[if_pos hm0]at hm';subst hm0;have Hm:=qz hm';clear hm';go_wp2_with (go_at_call 169;refine(Bt hval _ (by omega) (hT.below (hbw.alloc hz _))).mono ?_;rintro e w2 ⟨rfl,hb2⟩;obtain⟨hc2,hf2⟩:=Et hb2;have hz2:=hb2.size;simp only[World.size_alloc]at hz2;have hbw2:Below w.heap.size w w2:=(hbw.alloc hz _).trans (hb2.mono (by simp;omega));have hvs2:=hvs.below (((Below.refl _ wr).alloc hz (.cells #[.string key,.int .i64 k',.bool b',.int .i64 n',.string t',.slice la' l'.length lc',.slice oa' o'.length oc'] 94)).trans (hb2.mono (by simp;omega))));have x1:IntKind.i64.wrap ((k:Int) - 1)=(k:Int) - 1:=IntWalk.i64_in _ (by omega);have y1:1<=k:=by omega
           have y2:(1:Int)<=(k:Int):=by omega
           have y3:(k:Int)<(o.length:Int)+1:=by omega
           have y4:k<o.length+1:=by omega
           have y5:(k:Int)<=(o.length:Int):=by omega
           have x2:((k:Int) - 1).toNat=k - 1:=by omega
           go_quiet (fail);clear x1 x2;go_wp2_with (go_at_call 128;refine(IHv.out _ (d+1) _ (hT.below (Be hbw2 _)) (Ab.more (by simp;omega) _ _ (hvs2.below (Be (Below.refl _ _) _))) (by omega) (by omega) (by omega)).mono ?_;rintro e w3 ⟨he,hb3⟩;rw[Hmv.out]at he;subst he;have hbw3:Below w.heap.size w w3:=(Be hbw2 _).trans (hb3.mono (by have:=hbw2.size;simp;omega));have hbx3:w3.heap[w.heap.size]? =wr.heap[w.heap.size]? :=(hb3.block _ (by simp;omega)).trans ((hb2.block _ (by simp;omega)).trans (Below.heap_alloc _ _ _ hbx)));go_roundw
           case rel=>exact⟨k+1,by omega,by go_num,Hm,hbw3,hbx3.trans hbox⟩
           case measure=>simp[intOf];omega
         . rw[if_neg hm0]at hm';have hm1:(m==0)=false:=by simpa using hm0
           have hm2:(m != 0)=true:=by simpa using hm0
           have Hm:=qz hm';clear hm';go_wp2_with (go_at_call 169;refine(Bt hval _ (by omega) (hT.below (hbw.alloc hz _))).mono ?_;rintro e w2 ⟨rfl,hb2⟩;obtain⟨hc2,hf2⟩:=Et hb2;have hz2:=hb2.size;simp only[World.size_alloc]at hz2;have hbw2:Below w.heap.size w w2:=(hbw.alloc hz _).trans (hb2.mono (by simp;omega));have hvs2:=hvs.below (((Below.refl _ wr).alloc hz (.cells #[.string key,.int .i64 k',.bool b',.int .i64 n',.string t',.slice la' l'.length lc',.slice oa' o'.length oc'] 94)).trans (hb2.mono (by simp;omega))));have x1:IntKind.i64.wrap ((k:Int) - 1)=(k:Int) - 1:=IntWalk.i64_in _ (by omega);have y1:1<=k:=by omega
           have y2:(1:Int)<=(k:Int):=by omega
           have y3:(k:Int)<(o.length:Int)+1:=by omega
           have y4:k<o.length+1:=by omega
           have y5:(k:Int)<=(o.length:Int):=by omega
           have x2:((k:Int) - 1).toNat=k - 1:=by omega
           go_quiet (fail);clear x1 x2;go_wp2_with (go_at_call 128;refine(IHv.out _ (d+1) _ (hT.below (Be hbw2 _)) (Ab.more (by simp;omega) _ _ (hvs2.below (Be (Below.refl _ _) _))) (by omega) (by omega) (by omega)).mono ?_;rintro e w3 ⟨he,hb3⟩;rw[Hmv.out]at he;subst he;have hbw3:Below w.heap.size w w3:=(Be hbw2 _).trans (hb3.mono (by have:=hbw2.size;simp;omega));have hbx3:w3.heap[w.heap.size]? =wr.heap[w.heap.size]? :=(hb3.block _ (by simp;omega)).trans ((hb2.block _ (by simp;omega)).trans (Below.heap_alloc _ _ _ hbx)));go_ret;exact⟨by rw[<-Hm.out];rfl,hbw3⟩
      . have hlk:Eo o k=none:=by
         obtain rfl:k=0:=by omega
         rfl
        rw[hlk]at hm';simp only at hm';have hgd:decide (0<k)=false:=by simpa using hkp
        have hk0:k<=0:=by omega
        clear hlk hlast hL hv hLr hoa;obtain⟨m,hmv⟩: ∃m,Bb (.mk k' b' n' t' l' o') (d+1)=m:=⟨_,rfl⟩;rw[hmv]at hm';have Hmv:=qz hmv;clear hmv;by_cases hm0:m=0
        . rw[if_pos hm0]at hm';subst hm0;have Hm:=qz hm';clear hm';go_wp2_with (go_at_call 169;refine(Bt hval _ (by omega) (hT.below (hbw.alloc hz _))).mono ?_;rintro e w2 ⟨rfl,hb2⟩;obtain⟨hc2,hf2⟩:=Et hb2;have hz2:=hb2.size;simp only[World.size_alloc]at hz2;have hbw2:Below w.heap.size w w2:=(hbw.alloc hz _).trans (hb2.mono (by simp;omega));have hvs2:=hvs.below (((Below.refl _ wr).alloc hz (.cells #[.string key,.int .i64 k',.bool b',.int .i64 n',.string t',.slice la' l'.length lc',.slice oa' o'.length oc'] 94)).trans (hb2.mono (by simp;omega))));go_quiet (fail);go_wp2_with (go_at_call 128;refine(IHv.out _ (d+1) _ (hT.below (Be hbw2 _)) (Ab.more (by simp;omega) _ _ (hvs2.below (Be (Below.refl _ _) _))) (by omega) (by omega) (by omega)).mono ?_;rintro e w3 ⟨he,hb3⟩;rw[Hmv.out]at he;subst he;have hbw3:Below w.heap.size w w3:=(Be hbw2 _).trans (hb3.mono (by have:=hbw2.size;simp;omega));have hbx3:w3.heap[w.heap.size]? =wr.heap[w.heap.size]? :=(hb3.block _ (by simp;omega)).trans ((hb2.block _ (by simp;omega)).trans (Below.heap_alloc _ _ _ hbx)));go_roundw
          case rel=>exact⟨k+1,by omega,by go_num,Hm,hbw3,hbx3.trans hbox⟩
          case measure=>simp[intOf];omega
        . rw[if_neg hm0]at hm';have hm1:(m==0)=false:=by simpa using hm0
          have hm2:(m != 0)=true:=by simpa using hm0
          have Hm:=qz hm';clear hm';go_wp2_with (go_at_call 169;refine(Bt hval _ (by omega) (hT.below (hbw.alloc hz _))).mono ?_;rintro e w2 ⟨rfl,hb2⟩;obtain⟨hc2,hf2⟩:=Et hb2;have hz2:=hb2.size;simp only[World.size_alloc]at hz2;have hbw2:Below w.heap.size w w2:=(hbw.alloc hz _).trans (hb2.mono (by simp;omega));have hvs2:=hvs.below (((Below.refl _ wr).alloc hz (.cells #[.string key,.int .i64 k',.bool b',.int .i64 n',.string t',.slice la' l'.length lc',.slice oa' o'.length oc'] 94)).trans (hb2.mono (by simp;omega))));go_quiet (fail);go_wp2_with (go_at_call 128;refine(IHv.out _ (d+1) _ (hT.below (Be hbw2 _)) (Ab.more (by simp;omega) _ _ (hvs2.below (Be (Below.refl _ _) _))) (by omega) (by omega) (by omega)).mono ?_;rintro e w3 ⟨he,hb3⟩;rw[Hmv.out]at he;subst he;have hbw3:Below w.heap.size w w3:=(Be hbw2 _).trans (hb3.mono (by have:=hbw2.size;simp;omega));have hbx3:w3.heap[w.heap.size]? =wr.heap[w.heap.size]? :=(hb3.block _ (by simp;omega)).trans ((hb2.block _ (by simp;omega)).trans (Below.heap_alloc _ _ _ hbx)));go_ret;exact⟨by rw[<-Hm.out];rfl,hbw3⟩
    . have hvf:A4 key=false:=by simpa using hval
      rw[hvf]at hm';have Hm:=qz hm';clear hm' hlast hval hbox hoa hL hv hLr;go_wp2_with (go_at_call 169;refine(Bt hvf _ (by omega) (hT.below (hbw.alloc hz _))).mono ?_;rintro e w2 ⟨rfl,hb2⟩;have hbw2:Below w.heap.size w w2:=(hbw.alloc hz _).trans (hb2.mono (by simp;omega)));go_ret;exact⟨by rw[<-Hm.out];simp,hbw2⟩
  . obtain rfl:k=o.length:=by omega
    rw[List.drop_length]at hm;go_wp2;go_ret;exact⟨by rw[<-hm.out];rfl,hbw⟩
theorem Ir {t:ByteArray} (h:t.toList= []):t=ByteArray.empty:=by
 rw[Lib.toList_data]at h;have:t.data= #[]:=by simpa using h
 exact ByteArray.ext this
theorem Ge:A4 ByteArray.empty=true:=by decide
theorem Jv {k:Int} {b:Bool} {n:Int} {t:ByteArray} {ln on:Nat} (h:Fg k b n t ln on=false):
 (k=1\/k=2\/k=3\/k=4\/k=5\/k=6)/\(k=4\/t=ByteArray.empty)/\(k=5\/ln=0)/\(k=6\/on=0):=by
 unfold Fg at h;by_cases h1:k=1
 . subst h1;simp at h;exact⟨.inl rfl,.inr (Ir h.1.1.2),.inr h.1.2,.inr h.2⟩
 by_cases h2:k=2
 . subst h2;simp at h;exact⟨by omega,.inr (Ir h.1.1.2),.inr h.1.2,.inr h.2⟩
 by_cases h3:k=3
 . subst h3;simp at h;exact⟨by omega,.inr (Ir h.1.1.2),.inr h.1.2,.inr h.2⟩
 by_cases h4:k=4
 . subst h4;simp at h;exact⟨by omega,.inl rfl,.inr h.1.2,.inr h.2⟩
 by_cases h5:k=5
 . subst h5;simp at h;exact⟨by omega,.inr (Ir h.1.2),.inl rfl,.inr h.2⟩
 by_cases h6:k=6
 . subst h6;simp at h;exact⟨by omega,.inr (Ir h.1.2),.inr h.2,.inl rfl⟩
 simp[h1,h2,h3,h4,h5,h6]at h
theorem Kk {k:Int} {b:Bool} {n:Int} {t:ByteArray} {d:Int} (ho:Fg k b n t 0 0=false) (h64:d<=64):Bb (.mk k b n t [] []) d=if A4 t then 0 else 3:=by
 simp only[Bb,List.length_nil,ho,Bool.false_eq_true,if_false,if_neg (show ¬64<d by omega),Dd,Dx,if_true]
theorem Ac2: ∀(v:Val),Ah8 v:=by
 refine Val.ind ?_;intro k b n t l o ihl iho cs d w hT hV hb h0 h65;simp only[Ab]at hV;obtain⟨la,lc,oa,oc,rfl,hL,hO⟩:=hV;by_cases hodd:Fg k b n t l.length o.length=true
 . have hm:Bb (.mk k b n t l o) d=9:=by simp only[Bb,hodd,if_true]
   rw[hm];clear hm ihl iho hL hO;go_enter Tryz.func128,Tryz.ntmps128;go_wp2_with (go_at_call 179;refine(D7 hodd _).mono ?_;rintro e w' ⟨rfl,hb1⟩);go_ret;exact⟨rfl,((Below.refl _ _).alloc (Nat.le_refl _) _).trans (hb1.mono (by simp))⟩
 have hodd':Fg k b n t l.length o.length=false:=by simpa using hodd
 clear hodd;by_cases h64:64<d
 . have hm:Bb (.mk k b n t l o) d=5:=by simp only[Bb,hodd',Bool.false_eq_true,if_false,h64,if_true]
   rw[hm];clear hm ihl iho hL hO;go_enter Tryz.func128,Tryz.ntmps128;go_wp2_with (go_at_call 179;refine(D7 hodd' _).mono ?_;rintro e w' ⟨rfl,hb1⟩);go_ret;exact⟨rfl,((Below.refl _ _).alloc (Nat.le_refl _) _).trans (hb1.mono (by simp))⟩
 obtain⟨hk,ht,hl,ho⟩:=Jv hodd';simp only[Val.bulk]at hb;rcases hk with rfl|rfl|rfl|rfl|rfl|rfl
 . obtain rfl:l= []:=List.eq_nil_of_length_eq_zero (by omega);obtain rfl:o= []:=List.eq_nil_of_length_eq_zero (by omega);obtain rfl:t=ByteArray.empty:=by simpa using ht
   rw[Kk hodd' (by omega),Ge];clear ihl iho hL hO hl ho ht;go_enter Tryz.func128,Tryz.ntmps128;go_wp2_with (go_at_call 179;refine(D7 hodd' _).mono ?_;rintro e w' ⟨rfl,hb1⟩;obtain⟨hc1,hf1⟩:=Et hb1;have hz1:=hb1.size;simp only[World.size_alloc]at hz1);go_ret;exact⟨rfl,((Below.refl _ _).alloc (Nat.le_refl _) _).trans (hb1.mono (by simp))⟩
 . obtain rfl:l= []:=List.eq_nil_of_length_eq_zero (by omega);obtain rfl:o= []:=List.eq_nil_of_length_eq_zero (by omega);obtain rfl:t=ByteArray.empty:=by simpa using ht
   rw[Kk hodd' (by omega),Ge];clear ihl iho hL hO hl ho ht;go_enter Tryz.func128,Tryz.ntmps128;go_wp2_with (go_at_call 179;refine(D7 hodd' _).mono ?_;rintro e w' ⟨rfl,hb1⟩;obtain⟨hc1,hf1⟩:=Et hb1;have hz1:=hb1.size;simp only[World.size_alloc]at hz1);go_ret;exact⟨rfl,((Below.refl _ _).alloc (Nat.le_refl _) _).trans (hb1.mono (by simp))⟩
 . obtain rfl:l= []:=List.eq_nil_of_length_eq_zero (by omega);obtain rfl:o= []:=List.eq_nil_of_length_eq_zero (by omega);obtain rfl:t=ByteArray.empty:=by simpa using ht
   rw[Kk hodd' (by omega),Ge];clear ihl iho hL hO hl ho ht;go_enter Tryz.func128,Tryz.ntmps128;go_wp2_with (go_at_call 179;refine(D7 hodd' _).mono ?_;rintro e w' ⟨rfl,hb1⟩;obtain⟨hc1,hf1⟩:=Et hb1;have hz1:=hb1.size;simp only[World.size_alloc]at hz1);go_ret;exact⟨rfl,((Below.refl _ _).alloc (Nat.le_refl _) _).trans (hb1.mono (by simp))⟩
 . obtain rfl:l= []:=List.eq_nil_of_length_eq_zero (by omega);obtain rfl:o= []:=List.eq_nil_of_length_eq_zero (by omega);rw[Kk hodd' (by omega)];clear ihl iho hL hO hl ho ht;have hT1: ∀w1,Below w.heap.size w w1->Cr w1:=fun _ h=>hT.below h;by_cases hv:A4 t=true
   . rw[hv];go_enter Tryz.func128,Tryz.ntmps128;go_wp2_with (first|(go_at_call 179;refine(D7 hodd' _).mono ?_;rintro e w1 ⟨rfl,hb1⟩;obtain⟨hc1,hf1⟩:=Et hb1;have hz1:=hb1.size;simp only[World.size_alloc]at hz1;have hbw1:Below w.heap.size w w1:=((Below.refl _ _).alloc (Nat.le_refl _) _).trans (hb1.mono (by simp)))|(go_at_call 169;refine(Bt hv _ (by omega) (hT1 _ hbw1)).mono ?_;rintro e w2 ⟨rfl,hb2⟩));go_ret;exact⟨rfl,hbw1.trans (hb2.mono hbw1.size)⟩
   . have hv':A4 t=false:=by simpa using hv
     rw[hv'];go_enter Tryz.func128,Tryz.ntmps128;go_wp2_with (first|(go_at_call 179;refine(D7 hodd' _).mono ?_;rintro e w1 ⟨rfl,hb1⟩;obtain⟨hc1,hf1⟩:=Et hb1;have hz1:=hb1.size;simp only[World.size_alloc]at hz1;have hbw1:Below w.heap.size w w1:=((Below.refl _ _).alloc (Nat.le_refl _) _).trans (hb1.mono (by simp)))|(go_at_call 169;refine(Bt hv' _ (by omega) (hT1 _ hbw1)).mono ?_;rintro e w2 ⟨rfl,hb2⟩));go_ret;exact⟨rfl,hbw1.trans (hb2.mono hbw1.size)⟩
 . obtain rfl:o= []:=List.eq_nil_of_length_eq_zero (by omega);obtain rfl:t=ByteArray.empty:=by simpa using ht
   have hm:Bb (.mk 5 b n ByteArray.empty l []) d=Dd l (d+1):=by
    simp only[Bb,hodd',Bool.false_eq_true,if_false,h64,Ge,if_true,Dx]
    split<;>simp_all
   rw[hm];rcases hL with rfl|⟨g,off,rfl,hg,hL⟩
   . exact X6 b n _ [] la oa lc oc d w hT 0 0 (.inl rfl) (by simp[Bc]) h0 (by omega) ihl hodd'
   . exact X6 b n _ l _ oa lc oc d w hT g off (.inr ⟨rfl,hg,hL⟩) (by omega) h0 (by omega) ihl hodd'
 . obtain rfl:l= []:=List.eq_nil_of_length_eq_zero (by omega);obtain rfl:t=ByteArray.empty:=by simpa using ht
   have hm:Bb (.mk 6 b n ByteArray.empty [] o) d=Dx o none (d+1):=by
    simp only[Bb,hodd',Bool.false_eq_true,if_false,h64,Ge,if_true,Dd]
   rw[hm];rcases hO with rfl|⟨g,off,rfl,hg,hO⟩
   . exact Aby b n _ [] la oa lc oc d w hT 0 0 (.inl rfl) (by simp[Ac]) h0 (by omega) iho hodd'
   . exact Aby b n _ o la _ lc oc d w hT g off (.inr ⟨rfl,hg,hO⟩) (by omega) h0 (by omega) iho hodd'
theorem Ta (v:Val) (cs:List Value) (w:World) (hT:Cr w) (hV:Ab w w.heap.size v cs) (hb:v.bulk<=1000000000):
 Calls Tryz.prog 78 #[.agg cs.toArray] w fun e w'=>e=.returned (.int .i64 (Bb v 1))/\Below w.heap.size w w':=by
 have hV':=hV;obtain⟨k,b,n,t,l,o⟩:=v;simp only[Ab]at hV';obtain⟨la,lc,oa,oc,rfl,_,_⟩:=hV';have hc:=Ac2 _ _ 1 (w.alloc (.cells #[.int .i64 k,.bool b,.int .i64 n,.string t,.slice la l.length lc,.slice oa o.length oc] 40)) (hT.below ((Below.refl _ _).alloc (Nat.le_refl _) _)) (Ab.more (by simp) _ _ (hV.below ((Below.refl _ _).alloc (Nat.le_refl _) _))) hb (by omega) (by omega);generalize Bb _ _=m at hc ⊢;have H:=qz hc;clear hc hV;go_enter Tryz.func78,Tryz.ntmps78;go_wp2_with (go_at_call 128;refine(H.out).mono ?_;rintro e w' ⟨rfl,hb1⟩);go_ret;exact⟨rfl,((Below.refl _ _).alloc (Nat.le_refl _) _).trans (hb1.mono (by simp))⟩
end Go.Proofs.YtnkmhaachfgaoaaGreatDoor
