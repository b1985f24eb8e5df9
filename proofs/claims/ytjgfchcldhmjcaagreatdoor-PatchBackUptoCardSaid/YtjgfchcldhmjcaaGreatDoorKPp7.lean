/- Parts: slices.Clone of members. Condition: at most 10^8 of them. -/
import Derived.Lib.ItoaLen
import Derived.Test.YtjgfchcldhmjcaaGreatDoorKPp5
import Derived.Test.YtjgfchcldhmjcaaGreatDoorKPp6
set_option maxHeartbeats 20000000
set_option maxRecDepth 100000
namespace Go.Proofs.YtjgfchcldhmjcaaGreatDoor
open Go.RowKit
theorem Fe.app {w:World} {B:Nat}: ∀{a b:List (ByteArray×Val)} {ns ms:List Value},Fe w B a ns->Fe w B b ms->Fe w B (a++b) (ns++ms)
 | [],b,ns,ms,h,h'=>by
   have:ns= []:=h;subst this;exact h'
 |(k,v)::r,b,ns,ms,⟨cs,rest,e,h1,h2⟩,h'=>by
  subst e;exact⟨cs,rest++ms,by simp,h1,Fe.app h2 h'⟩
theorem Fe.len {w:World} {B:Nat}: ∀{l:List (ByteArray×Val)} {ns:List Value},Fe w B l ns->ns.length=l.length*7/\ ∀u ∈ ns,u.oneCell'=true
 | [],ns,h=>by
   have:ns= []:=h;subst this;exact⟨rfl,fun u a=>by cases a⟩
 |(k,v)::r,ns,⟨cs,rest,e,h1,h2⟩=>by
  subst e;obtain⟨a1,b⟩:=h1.len;obtain⟨c,d⟩:=Fe.len h2;refine⟨by rw[List.length_cons,List.length_append,a1,c,List.length_cons];omega,fun u a=> ?_⟩;rcases List.mem_cons.1 a with rfl|a
  . rfl
  rcases List.mem_append.1 a with a|a
  . exact b u a
  . exact d u a
theorem Fe.split {w:World} {B:Nat}: ∀{l:List (ByteArray×Val)} {ns:List Value} (k:Nat),Fe w B l ns->Fe w B (l.take k) (ns.take (k*7))/\Fe w B (l.drop k) (ns.drop (k*7))
 | [],ns,k,h=>by
   have:ns= []:=h;subst this;simp[Fe]
 |(key,v)::r,ns,0,h=>by
  simp only[List.take_zero,Nat.zero_mul,List.drop_zero];exact⟨rfl,h⟩
 |(key,v)::r,ns,k+1,⟨cs,rest,e,h1,h2⟩=>by
  subst e;obtain⟨a,b⟩:=Fe.split k h2;have c:=h1.len.1;have d:(Value.string key::(cs++rest)).take ((k+1)*7)=.string key::(cs++rest.take (k*7)):=by
   rw[show(k+1)*7=(6+k*7)+1 from by omega,List.take_succ_cons,List.take_append,c,List.take_of_length_le (by omega),show 6+k*7 - 6=k*7 from by omega]
  have f:(Value.string key::(cs++rest)).drop ((k+1)*7)=rest.drop (k*7):=by
   rw[show(k+1)*7=(6+k*7)+1 from by omega,List.drop_succ_cons,List.drop_append,c,List.drop_eq_nil_of_le (by omega),show 6+k*7 - 6=k*7 from by omega,List.nil_append]
  rw[d,f];exact⟨⟨cs,rest.take (k*7),rfl,h1,a⟩,b⟩
theorem Gn: ∀(a b:List (ByteArray×Val)),Af (a++b)=Af a+Af b
 | [],b=>by simp[Af]
 |x::r,b=>by simp only[List.cons_append,Af,Gn r b];omega
theorem Sg: ∀{a b:List (ByteArray×Val)},I6 a->I6 b->I6 (a++b)
 | [],_,_,h=>h
 |x::r,b,h,h'=>by
  simp only[List.cons_append,I6]at h ⊢;exact⟨h.1,Sg h.2 h'⟩
def Er (a b:ByteArray):Bool:=Op.bytesLess a.toList b.toList
def F9 (k:ByteArray):List (ByteArray×Val)->Nat
 | []=>0
 |p::r=>if Er p.1 k then F9 k r+1 else 0
def E6 (k:ByteArray) (acc:List (ByteArray×Val)):Bool:=(acc[F9 k acc]?).any fun p=>p.1.toList==k.toList
def Jw (m:ByteArray×Val) (acc:List (ByteArray×Val)):List (ByteArray×Val):=acc.take (F9 m.1 acc)++([m]++acc.drop (F9 m.1 acc))
def Bg:List (ByteArray×Val)->List (ByteArray×Val)->Option (List (ByteArray×Val))
 | [],acc=>some acc
 |m::r,acc=>if E6 m.1 acc then none else Bg r (Jw m acc)
theorem Sp (k:ByteArray): ∀acc,F9 k acc<=acc.length
 | []=>Nat.zero_le _
 |p::r=>by
  have:=Sp k r;simp only[F9,List.length_cons]
  split<;>omega
theorem Aht (k:ByteArray): ∀{acc:List (ByteArray×Val)} {j:Nat} {p:ByteArray×Val},j<F9 k acc->acc[j]? =some p->Er p.1 k=true
 | [],j,p,h,hp=>by simp at hp
 |q::r,0,p,h,hp=>by
  simp only[F9]at h;simp only[List.getElem?_cons_zero,Option.some.injEq]at hp;subst hp;by_cases a:Er q.1 k=true
  . exact a
  . rw[if_neg a]at h;omega
 |q::r,j+1,p,h,hp=>by
  simp only[F9]at h;by_cases a:Er q.1 k=true
  . rw[if_pos a]at h;exact Aht k (acc:=r) (j:=j) (by omega) (by simpa using hp)
  . rw[if_neg a]at h;omega
theorem Ahs (k:ByteArray): ∀{acc:List (ByteArray×Val)} {p:ByteArray×Val},acc[F9 k acc]? =some p->Er p.1 k=false
 | [],p,hp=>by simp at hp
 |q::r,p,hp=>by
  by_cases a:Er q.1 k=true
  . simp only[F9,if_pos a,List.getElem?_cons_succ]at hp;exact Ahs k hp
  . simp only[F9,if_neg a,List.getElem?_cons_zero,Option.some.injEq]at hp;subst hp;simpa using a
theorem Ajt (m:ByteArray×Val) (acc:List (ByteArray×Val)):(Jw m acc).length=acc.length+1:=by
 have:=Sp m.1 acc;simp only[Jw,List.length_append,List.length_take,List.length_drop,List.length_cons,List.length_nil];omega
theorem Vt (m:ByteArray×Val) (acc:List (ByteArray×Val)):Af (Jw m acc)=Af acc+E7 m:=by
 have h:=congrArg Af (List.take_append_drop (F9 m.1 acc) acc);rw[Gn]at h;simp only[Jw,Gn,Af];omega
theorem Z3: ∀{l:List (ByteArray×Val)} (k:Nat),I6 l->I6 (l.take k)
 | [],k,_=>by simp[I6]
 |_::_,0,_=>by simp[I6]
 |x::r,k+1,h=>by
  simp only[List.take_succ_cons,I6]at h ⊢;exact⟨h.1,Z3 k h.2⟩
theorem Z2: ∀{l:List (ByteArray×Val)} (k:Nat),I6 l->I6 (l.drop k)
 | [],k,_=>by simp[I6]
 |_::_,0,h=>h
 |x::r,k+1,h=>by
  simp only[List.drop_succ_cons,I6]at h ⊢;exact Z2 k h.2
theorem Akx {m:ByteArray×Val} {acc:List (ByteArray×Val)} (h:I6 acc) (a:I9 m.2):I6 (Jw m acc):=by
 obtain⟨k,v⟩:=m;exact Sg (Z3 _ h) (Sg ⟨a,trivial⟩ (Z2 _ h))
theorem L8: ∀{l acc o:List (ByteArray×Val)},Bg l acc=some o->Af o=Af acc+Af l
 | [],acc,o,h=>by
   simp only[Bg,Option.some.injEq]at h;subst h;simp[Af]
 |m::r,acc,o,h=>by
  simp only[Bg]at h;by_cases a:E6 m.1 acc=true
  . rw[if_pos a]at h;cases h
  . rw[if_neg a]at h;rw[L8 h,Vt];simp only[Af];omega
theorem Wd: ∀{l acc o:List (ByteArray×Val)},Bg l acc=some o->I6 acc->I6 l->I6 o
 | [],acc,o,h,ha,_=>by
   simp only[Bg,Option.some.injEq]at h;exact h▸ha
 |(k,v)::r,acc,o,h,ha,hl=>by
  simp only[Bg]at h;by_cases a:E6 k acc=true
  . rw[if_pos a]at h;cases h
  . rw[if_neg a]at h;exact Wd h (Akx ha hl.1) hl.2
theorem Jm: ∀x:List UInt8,Op.bytesLess x x=false
 | []=>rfl
 |a::x=>by simp[Op.bytesLess,Jm x,UInt8.lt_irrefl]
theorem Oy: ∀{x y z:List UInt8},Op.bytesLess x y=true->Op.bytesLess y z=true->Op.bytesLess x z=true
 |_, [],_,h,_=>by cases ‹List UInt8› <;>simp[Op.bytesLess]at h
 |_,_::_, [],_,h=>by simp[Op.bytesLess]at h
 | [],_::_,_::_,_,_=>rfl
 |a::x,b::y,c::z,h,k=>by
  simp only[Op.bytesLess,Bool.or_eq_true,Bool.and_eq_true,decide_eq_true_eq,beq_iff_eq]at h k ⊢;rcases h with h|⟨rfl,h⟩<;>rcases k with k|⟨rfl,k⟩
  . exact .inl (UInt8.lt_trans h k)
  . exact .inl h
  . exact .inl k
  . exact .inr ⟨rfl,Oy h k⟩
theorem Ab6: ∀(x y:List UInt8),Op.bytesLess x y=true\/x=y\/Op.bytesLess y x=true
 | [], []=> .inr (.inl rfl)
 | [],_::_=> .inl rfl
 |_::_, []=> .inr (.inr rfl)
 |a::x,b::y=>by
  simp only[Op.bytesLess,Bool.or_eq_true,Bool.and_eq_true,decide_eq_true_eq,beq_iff_eq];rcases Nat.lt_trichotomy a.toNat b.toNat with h|h|h
  . exact .inl (.inl (UInt8.lt_iff_toNat_lt.2 h))
  . have c:a=b:=UInt8.toNat_inj.1 h;subst c;rcases Ab6 x y with h|h|h
    . exact .inl (.inr ⟨rfl,h⟩)
    . exact .inr (.inl (by rw[h]))
    . exact .inr (.inr (.inr ⟨rfl,h⟩))
  . exact .inr (.inr (.inl (UInt8.lt_iff_toNat_lt.2 h)))
theorem toList_inj {a b:ByteArray} (h:a.toList=b.toList):a=b:=by
 rw[Lib.toList_data,Lib.toList_data]at h;exact ByteArray.ext (Array.ext' h)
theorem Ds (a:ByteArray):Er a a=false:=Jm _
theorem Dq {a b c:ByteArray} (h:Er a b=true) (k:Er b c=true):Er a c=true:=Oy h k
theorem Kb (a b:ByteArray):Er a b=true\/a=b\/Er b a=true:=by
 rcases Ab6 a.toList b.toList with h|h|h
 . exact .inl h
 . exact .inr (.inl (toList_inj h))
 . exact .inr (.inr h)
theorem Tm {a b:ByteArray} (h:Er a b=true):Er b a=false:=by
 cases e:Er b a with
 |false=>rfl
 |true=>have:=Dq h e;rw[Ds]at this;cases this
def Dg (l:List (ByteArray×Val)):Prop:=l.Pairwise fun a b=>Er a.1 b.1=true
theorem Vl (k:ByteArray): ∀{acc:List (ByteArray×Val)},Dg acc->E6 k acc=false->(∀p ∈ acc.take (F9 k acc),Er p.1 k=true)/\(∀p ∈ acc.drop (F9 k acc),Er k p.1=true)
 | [],_,_=>by simp
 |q::r,ha,hh=>by
  obtain⟨j,l⟩:=List.pairwise_cons.1 ha;by_cases d:Er q.1 k=true
  . have g:E6 k r=false:=by
     unfold E6 at hh ⊢;simpa only[F9,if_pos d,List.getElem?_cons_succ]using hh
    obtain⟨a,b⟩:=Vl k l g;simp only[F9,if_pos d,List.take_succ_cons,List.drop_succ_cons];refine⟨fun p c=> ?_,b⟩;rcases List.mem_cons.1 c with rfl|c
    . exact d
    . exact a p c
  . simp only[F9,if_neg d,List.take_zero,List.drop_zero];refine⟨fun p c=>(by cases c), ?_⟩;have i:q.1≠k:=by
     intro e;unfold E6 at hh;simp only[F9,if_neg d,List.getElem?_cons_zero,Option.any_some]at hh;rw[e]at hh;simp at hh
    have f:Er k q.1=true:=by
     rcases Kb q.1 k with h|h|h
     . exact absurd h d
     . exact absurd h i
     . exact h
    intro p c;rcases List.mem_cons.1 c with rfl|c
    . exact f
    . exact Dq f (j p c)
theorem Ajs {m:ByteArray×Val} {acc:List (ByteArray×Val)} (c:Dg acc) (k:E6 m.1 acc=false):Dg (Jw m acc):=by
 obtain⟨e,f⟩:=Vl m.1 c k;have g:Dg (acc.take (F9 m.1 acc)++acc.drop (F9 m.1 acc)):=by rw[List.take_append_drop];exact c
 obtain⟨h,i,j⟩:=List.pairwise_append.1 g;refine List.pairwise_append.2 ⟨h,List.pairwise_cons.2 ⟨f,i⟩,fun a c b d=> ?_⟩;rcases List.mem_cons.1 d with rfl|d
 . exact e a c
 . exact j a c b d
theorem Wj (m:ByteArray×Val) (acc:List (ByteArray×Val)):(Jw m acc).Perm (m::acc):=by
 have h:(acc.take (F9 m.1 acc)++([m]++acc.drop (F9 m.1 acc))).Perm ([m]++(acc.take (F9 m.1 acc)++acc.drop (F9 m.1 acc))):=by
  rw[<-List.append_assoc,<-List.append_assoc];exact List.Perm.append_right _ List.perm_append_comm
 rw[List.take_append_drop]at h;exact h
theorem Aip {k:ByteArray} {acc:List (ByteArray×Val)} (h:E6 k acc=true): ∃v,(k,v) ∈ acc:=by
 unfold E6 at h
 cases e:acc[F9 k acc]? with
 |none=>rw[e]at h;cases h
 |some p=>
  rw[e]at h;have a:p.1=k:=toList_inj (by simpa using h);exact⟨p.2,by rw[<-a];exact List.mem_of_getElem? e⟩
theorem Kd: ∀{l acc o:List (ByteArray×Val)},Bg l acc=some o->Dg acc->Dg o/\o.Perm (l++acc)
 | [],acc,o,h,ha=>by
   simp only[Bg,Option.some.injEq]at h;subst h;exact⟨ha,List.Perm.refl _⟩
 |m::r,acc,o,h,ha=>by
  simp only[Bg]at h;by_cases a:E6 m.1 acc=true
  . rw[if_pos a]at h;cases h
  . rw[if_neg a]at h;obtain⟨b,c⟩:=Kd h (Ajs ha (by simpa using a));exact⟨b,c.trans ((List.Perm.append_left r (Wj m acc)).trans List.perm_middle)⟩
theorem So {l:List (ByteArray×Val)} (h:Dg l):(l.map (·.1)).Nodup:=by
 rw[List.Nodup,List.pairwise_map];exact h.imp fun a e=>by rw[e,Ds]at a;cases a
theorem L9: ∀{l acc:List (ByteArray×Val)},Bg l acc=none-> ¬((l++acc).map (·.1)).Nodup
 | [],acc,h=>by simp[Bg]at h
 |m::r,acc,h=>by
  simp only[Bg]at h;by_cases b:E6 m.1 acc=true
  . obtain⟨v,d⟩:=Aip b;intro a;rw[List.cons_append,List.map_cons,List.nodup_cons]at a;exact a.1 (List.mem_map.2 ⟨(m.1,v),List.mem_append.2 (.inr d),rfl⟩)
  . rw[if_neg b]at h;intro a;refine L9 h ?_;have c:((r++Jw m acc).map (·.1)).Perm ((m::r++acc).map (·.1)):=((List.Perm.append_left r (Wj m acc)).trans List.perm_middle).map _;exact c.nodup_iff.2 a
theorem Nv: ∀{a b:List (ByteArray×Val)},Dg a->Dg b->a.Perm b->a=b
 | [],b,_,_,h=>(List.Perm.nil_eq h)
 |x::a, [],_,_,h=>by have:=h.length_eq;simp at this
 |x::a,y::b,ha,hb,h=>by
  obtain⟨d,f⟩:=List.pairwise_cons.1 ha;obtain⟨g,i⟩:=List.pairwise_cons.1 hb;have c:x=y:=by
   rcases List.mem_cons.1 (h.mem_iff.1 (List.mem_cons_self (a:=x)))with e|j
   . exact e
   . rcases List.mem_cons.1 (h.mem_iff.2 (List.mem_cons_self (a:=y)))with e|k
     . exact e.symm
     . have p:=g x j;have q:=d y k;rw[Tm p]at q
       cases q
  subst c;rw[Nv f i (List.perm_cons _ |>.1 h)]
theorem Nj {l d:List (ByteArray×Val)} (c:d.Perm l) (b:Dg d):Bg l []=some d:=by
 cases e:Bg l []with
 |none=>
  exfalso
  refine L9 e ?_;rw[List.append_nil];exact(c.map (·.1)).nodup_iff.1 (So b)
 |some o=>
  obtain⟨f,a⟩:=Kd e List.Pairwise.nil;rw[List.append_nil]at a;rw[Nv b f (c.trans a.symm)]
theorem X4 {l d:List (ByteArray×Val)} (c:d.Perm l) (f: ¬(d.map (·.1)).Nodup):Bg l []=none:=by
 cases e:Bg l []with
 |none=>rfl
 |some o=>
  obtain⟨b,a⟩:=Kd e List.Pairwise.nil;rw[List.append_nil]at a;exact absurd ((c.trans a.symm).map (·.1) |>.nodup_iff.2 (So b)) f
mutual
def dV:Val->D
 | .mk k b n t l o=> .agg [.leaf (.int .i64 k),.leaf (.bool b),.leaf (.int .i64 n),.leaf (.string t),.row 6 (dL l),.row 7 (dO o)]
def dL:List Val->List D
 | []=> []
 |v::r=>dV v::dL r
def dO:List (ByteArray×Val)->List D
 | []=> []
 |p::r=>dP p::dO r
def dP:ByteArray×Val->D
 |(key,v)=> .agg [.leaf (.string key),dV v]
end
theorem Gz: ∀l,dL l=l.map dV
 | []=>rfl
 |v::r=>by simp[dL,Gz r]
theorem Dx: ∀l,dO l=l.map dP
 | []=>rfl
 |v::r=>by simp[dO,Dx r]
theorem D7 (v:Val):(dV v).cells=6:=by
 obtain⟨k,b,n,t,l,o⟩:=v;rfl
theorem D6 (p:ByteArray×Val):(dP p).cells=7:=by
 obtain⟨k,v⟩:=p;simp only[dP,D.cells,Kg,D7]
theorem Zj (l:List Val): ∀d ∈ dL l,d.cells=6:=by
 rw[Gz];intro d a;obtain⟨v,_,rfl⟩:=List.mem_map.1 a;exact D7 v
theorem L0 (l:List (ByteArray×Val)): ∀d ∈ dO l,d.cells=7:=by
 rw[Dx];intro d a;obtain⟨v,_,rfl⟩:=List.mem_map.1 a;exact D6 v
theorem K8 (l:List Val):(dL l).length=l.length:=by rw[Gz,List.length_map]
theorem Cb (l:List (ByteArray×Val)):(dO l).length=l.length:=by rw[Dx,List.length_map]
theorem Ah.six {w:World} {B:Nat} {a b c d:Value} {e f:D} {cs:List Value}:
 Ah w B [.leaf a,.leaf b,.leaf c,.leaf d,e,f] cs ↔ ∃c4 c5,cs= [a,b,c,d]++(c4++c5)/\a.oneCell'=true/\b.oneCell'=true/\c.oneCell'=true/\d.oneCell'=true/\Ag w B e c4/\Ag w B f c5:=by
 constructor
 . rintro⟨_,_,rfl,⟨rfl,ha⟩,_,_,rfl,⟨rfl,hb⟩,_,_,rfl,⟨rfl,hc⟩,_,_,rfl,⟨rfl,hd⟩,c4,_,rfl,h4,c5,_,rfl,h5,rfl⟩;exact⟨c4,c5,by simp,ha,hb,hc,hd,h4,h5⟩
 . rintro⟨c4,c5,rfl,ha,hb,hc,hd,h4,h5⟩;exact⟨[a],_,rfl,⟨rfl,ha⟩, [b],_,rfl,⟨rfl,hb⟩, [c],_,rfl,⟨rfl,hc⟩, [d],_,rfl,⟨rfl,hd⟩,c4,_,rfl,h4,c5, [],by simp,h5,rfl⟩
theorem Ah.toL {w:World} {B:Nat} {g:Nat}: ∀{l:List Val},(∀v ∈ l,∀cs,Ag w B (dV v) cs->Ab w B v cs)-> ∀{ns:List Value} {off:Nat},Ah w B (dL l) ns->(∀j u,ns[j]? =some u->w.cell? ⟨g,off+j,none⟩=some u)->Aq w B l g off
 | [],_,_,_,_,_=>by simp[Aq]
 |v::r,ih,ns,off,h,hc=>by
  obtain⟨c1,c2,rfl,b,c⟩:=h;have d:c1.length=6:=b.len.1.trans (D7 v);simp only[Aq];refine⟨⟨c1,ih v (by simp) c1 b,fun j u a=>hc j u (by rw[List.getElem?_append_left (List.getElem?_eq_some_iff.1 a).1];exact a)⟩,Ah.toL (fun x e=>ih x (by simp[e])) c (fun j u a=> ?_)⟩;rw[show off+6+j=off+(6+j)from by omega];refine hc (6+j) u ?_;rw[List.getElem?_append_right (by omega),d,show 6+j - 6=j from by omega];exact a
theorem Ah.toO {w:World} {B:Nat} {g:Nat}: ∀{l:List (ByteArray×Val)},(∀m ∈ l,∀cs,Ag w B (dV m.2) cs->Ab w B m.2 cs)-> ∀{ns:List Value} {off:Nat},Ah w B (dO l) ns->(∀j u,ns[j]? =some u->w.cell? ⟨g,off+j,none⟩=some u)->An w B l g off
 | [],_,_,_,_,_=>by simp[An]
 |(key,v)::r,ih,ns,off,h,hc=>by
  obtain⟨c1,c2,rfl,d,e⟩:=h;obtain⟨_,c3,rfl,⟨rfl,_⟩,b,c4,rfl,c,rfl⟩:=d;have i:b.length=6:=c.len.1.trans (D7 v);simp only[An,Ku];refine⟨⟨by have:=hc 0 (.string key) rfl;simpa using this,b,ih (key,v) (by simp) b c,fun j u a=> ?_⟩,Ah.toO (fun x k=>ih x (by simp[k])) e (fun j u a=> ?_)⟩
  . have f:=(List.getElem?_eq_some_iff.1 a).1;rw[show off+1+j=off+(j+1)from by omega];refine hc (j+1) u ?_;simp only[List.append_nil,List.cons_append,List.nil_append,List.getElem?_cons_succ];rw[List.getElem?_append_left f];exact a
  . rw[show off+7+j=off+(6+j+1)from by omega];refine hc (6+j+1) u ?_;simp only[List.append_nil,List.cons_append,List.nil_append,List.getElem?_cons_succ];rw[List.getElem?_append_right (by omega),i,show 6+j - 6=j from by omega];exact a
theorem Be {w:World} {B:Nat}: ∀(v:Val) cs,Ag w B (dV v) cs->Ab w B v cs:=by
 refine Val.ind ?_;intro k b n t l o p q cs h;simp only[dV,Ag]at h;obtain⟨c4,c5,rfl,_,_,_,_,⟨f,y,rfl,_,A,j,s⟩,⟨i,z,rfl,_,C,m,u⟩⟩:=Ah.six.1 h;simp only[Ab];refine⟨f,y,i,z,by simp[Eb,K8,Cb], ?_, ?_⟩
 . rcases s with e|⟨g,a,e,d,c⟩
   . refine .inl ?_
     cases l with
     |nil=>rfl
     |cons x r=>simp[dL]at e
   . exact .inr ⟨g,a,e,d,Ah.toL p j c⟩
 . rcases u with e|⟨g,a,e,d,c⟩
   . refine .inl ?_
     cases o with
     |nil=>rfl
     |cons x r=>simp[dO]at e
   . exact .inr ⟨g,a,e,d,Ah.toO q m c⟩
theorem Ah.ofL {w:World} {B:Nat} {g:Nat}: ∀{l:List Val},(∀v ∈ l,∀cs,Ab w B v cs->Ag w B (dV v) cs)-> ∀{off:Nat},Aq w B l g off-> ∃ns,Ah w B (dL l) ns/\ ∀j u,ns[j]? =some u->w.cell? ⟨g,off+j,none⟩=some u
 | [],_,_,_=>⟨[],rfl,fun j u h=>by simp at h⟩
 |v::r,ih,off,h=>by
  simp only[Aq]at h;obtain⟨⟨cs,c,i⟩,d⟩:=h;have a:=ih v (by simp) cs c;have k:cs.length=6:=a.len.1.trans (D7 v);obtain⟨ns,e,f⟩:=Ah.ofL (fun x m=>ih x (by simp[m])) d;refine⟨cs++ns,⟨cs,ns,rfl,a,e⟩,fun j u b=> ?_⟩;by_cases n:j<6
  . rw[List.getElem?_append_left (by omega)]at b;exact i j u b
  . rw[List.getElem?_append_right (by omega),k]at b;have:=f (j - 6) u b
    rwa [show off+6+(j - 6)=off+j from by omega]at this
theorem Ah.ofO {w:World} {B:Nat} {g:Nat}: ∀{l:List (ByteArray×Val)},(∀m ∈ l,∀cs,Ab w B m.2 cs->Ag w B (dV m.2) cs)-> ∀{off:Nat},An w B l g off-> ∃ns,Ah w B (dO l) ns/\ ∀j u,ns[j]? =some u->w.cell? ⟨g,off+j,none⟩=some u
 | [],_,_,_=>⟨[],rfl,fun j u h=>by simp at h⟩
 |(key,v)::r,ih,off,h=>by
  simp only[An,Ku]at h;obtain⟨⟨h0,cs,c,i⟩,d⟩:=h;have b:=ih (key,v) (by simp) cs c;have k:cs.length=6:=b.len.1.trans (D7 v);obtain⟨ns,e,f⟩:=Ah.ofO (fun x n=>ih x (by simp[n])) d;refine⟨(.string key::cs)++ns,⟨.string key::cs,ns,rfl,⟨[.string key],cs,rfl,⟨rfl,rfl⟩,cs, [],by simp,b,rfl⟩,e⟩,fun j u a=> ?_⟩
  match j,a with
  |0,a=>
   simp at a;subst a;exact h0
  |j+1,a=>
   simp only[List.cons_append,List.getElem?_cons_succ]at a;by_cases o:j<6
   . rw[List.getElem?_append_left (by omega)]at a;have:=i j u a
     rwa [show off+1+j=off+(j+1)from by omega]at this
   . rw[List.getElem?_append_right (by omega),k]at a;have:=f (j - 6) u a
     rwa [show off+7+(j - 6)=off+(j+1)from by omega]at this
theorem Fl {w:World} {B:Nat}: ∀(v:Val) cs,Ab w B v cs->Ag w B (dV v) cs:=by
 refine Val.ind ?_;intro k b n t l o r s cs h;simp only[Ab]at h;obtain⟨m,p,q,oc,rfl,c,d⟩:=h;simp only[dV,Ag];refine Ah.six.2 ⟨[.slice m l.length p], [.slice q o.length oc],rfl,rfl,rfl,rfl,rfl, ?_, ?_⟩
 . rcases c with rfl|⟨g,a,e,j,c⟩
   . exact⟨m,p,rfl,Zj _, [],rfl,.inl rfl⟩
   . obtain⟨ns,f,i⟩:=Ah.ofL r c;exact⟨m,p,by rw[K8],Zj _,ns,f,.inr ⟨g,a,e,j,i⟩⟩
 . rcases d with rfl|⟨g,a,e,j,d⟩
   . exact⟨q,oc,rfl,L0 _, [],rfl,.inl rfl⟩
   . obtain⟨ns,f,i⟩:=Ah.ofO s d;exact⟨q,oc,by rw[Cb],L0 _,ns,f,.inr ⟨g,a,e,j,i⟩⟩
theorem Ag.cutL {w:World} {B s n c:Nat} {l:List D} {a:Option Addr} (h:Ag w B (.row s l) [.slice a n c]) {i:Nat} (y:i<=l.length) (o:Nat):Ag w B (.row s (l.take i)) [.slice a i o]:=by
 obtain⟨z,c2,e,p,ns,r,k⟩:=h;simp only[List.cons.injEq,Value.slice.injEq,and_true]at e;obtain⟨rfl,_,rfl⟩:=e;refine⟨a,o,by rw[List.length_take,Nat.min_eq_left y],fun d v=>p d (List.mem_of_mem_take v),ns.take (i*s),(r.split i p).1, ?_⟩;rcases k with k|⟨g,m,q,x,t⟩
 . exact .inl (by rw[k];simp)
 . refine .inr ⟨g,m,q,x,fun j u b=> ?_⟩;rw[List.getElem?_take]at b;by_cases f:j<i*s
   . rw[if_pos f]at b;exact t j u b
   . rw[if_neg f]at b;cases b
theorem Ag.cutR {w:World} {B s n c g a:Nat} {l:List D} (h:Ag w B (.row s l) [.slice (some ⟨g,a,none⟩) n c]) {i m:Nat} (A:i+m=l.length) (f:Nat):Ag w B (.row s (l.drop i)) [.slice (some ⟨g,a+i*s,none⟩) m f]:=by
 obtain⟨y,c2,e,o,ns,r,b⟩:=h;simp only[List.cons.injEq,Value.slice.injEq,and_true]at e;obtain⟨rfl,_,rfl⟩:=e;refine⟨_,f,by rw[List.length_drop,show l.length - i=m from by omega],fun d v=>o d (List.mem_of_mem_drop v),ns.drop (i*s),(r.split i o).2, ?_⟩;rcases b with b|⟨z,p,q,x,t⟩
 . exact .inl (by rw[b];simp)
 . cases q
   refine .inr ⟨g,a+i*s,rfl,x,fun j u k=> ?_⟩;rw[List.getElem?_drop]at k;rw[Nat.add_assoc];exact t _ u k
theorem Cd.split {S:Nat->Prop} {w:World} {l:List D} {ns:List Value} {s:Nat} (h:Cd S w l ns) (e: ∀d ∈ l,d.cells=s) (i:Nat):Cd S w (l.take i) (ns.take (i*s))/\Cd S w (l.drop i) (ns.drop (i*s)):=
 ⟨fun a b c=>((h a b c).split i e).1,fun a b c=>((h a b c).split i e).2⟩
theorem Cd.grow {S0:Nat->Prop} {w w':World} {V V':Value} {l:List D} {ns:List Value} (h:Cd (fun i=>S0 i/\V.ownBlock≠some i) w l ns) (a:w.grownBy w' V.ownBlock) (g:V'.ownBlock=V.ownBlock\/V'.ownBlock=some w.heap.size):Cd (fun i=>S0 i/\V'.ownBlock≠some i) w' l ns:=fun c k m=>by
 refine Ah.more (h c (Nat.le_trans a.size k) fun p b d=> ?_) a.size;have j:V'.ownBlock≠some p.block:=by
  rcases g with e|e
  . rw[e];exact b.2
  . rw[e];intro f;have:=Option.some.inj f;omega
 rw[m p ⟨b.1,j⟩ (Nat.lt_of_lt_of_le d a.size)];exact World.cell?_of_block (a.block p.block d (fun e=>b.2 e.symm))
theorem Ai.grow {S0:Nat->Prop} {w w':World} {V V':Value} {d:D} {cs:List Value} (h:Ai (fun i=>S0 i/\V.ownBlock≠some i) w d cs) (a:w.grownBy w' V.ownBlock) (j:V'.ownBlock=V.ownBlock\/V'.ownBlock=some w.heap.size):Ai (fun i=>S0 i/\V'.ownBlock≠some i) w' d cs:=fun c l m=>by
 refine Ag.more (h c (Nat.le_trans a.size l) fun p b f=> ?_) a.size;have k:V'.ownBlock≠some p.block:=by
  rcases j with e|e
  . rw[e];exact b.2
  . rw[e];intro g;have:=Option.some.inj g;omega
 rw[m p ⟨b.1,k⟩ (Nat.lt_of_lt_of_le f a.size)];exact World.cell?_of_block (a.block p.block f (fun e=>b.2 e.symm))
theorem Bk.of_ins {S0:Nat->Prop} {b s n i:Nat} {e:TypeId} {w w':World} {l:List D} {d:D} {ns ys:List Value} {V V':Value} (j:w'.ownsRow b e s V' n (ns.take (i*s)++ys++ns.drop (i*s))) (c: ∀x ∈ l,x.cells=s) (m:d.cells=s) (k:Cd (fun i=>S0 i/\V.ownBlock≠some i) w l ns) (p:Ai (fun i=>S0 i/\V.ownBlock≠some i) w d ys)
 (g:w.grownBy w' V.ownBlock) (f:V'.ownBlock=V.ownBlock\/V'.ownBlock=some w.heap.size) (o:n=l.length+1):Bk S0 b e s w' (l.take i++ [d]++l.drop i) V':=by
 obtain⟨a1,h⟩:=(k.grow g f).split c i;refine⟨_, ?_,fun x a=> ?_,(a1.app (Cd.one (p.grow g f))).app h⟩
 . rw[show(l.take i++ [d]++l.drop i).length=n from by rw[o];simp;omega];exact j
 . rcases List.mem_append.1 a with a|a
   . rcases List.mem_append.1 a with a|a
     . exact c x (List.mem_of_mem_take a)
     . rw[List.mem_singleton.1 a];exact m
   . exact c x (List.mem_of_mem_drop a)
theorem Agk {cs:Array Value} {ns ys:List Value} {m o:Nat} (c:cs.toList.take m=ns) (f:ns.length=m) (h:o+ys.length<=m):(R6 cs o ys).toList.take m=ns.take o++ys++ns.drop (o+ys.length):=by
 have g:m<=cs.size:=by
  rw[<-c,List.length_take,Array.length_toList]at f;omega
 refine List.ext_getElem? fun j=> ?_;have b: ∀j,j<m->cs[j]? =ns[j]? :=fun j a=>by rw[<-c,List.getElem?_take,if_pos a,Array.getElem?_toList]
 rw[List.getElem?_take];by_cases a:j<m
 . rw[if_pos a,Array.getElem?_toList,Pg _ _ _ _ (by omega)];by_cases d:j<o
   . rw[if_neg (by omega),b j a,List.append_assoc,List.getElem?_append_left (by rw[List.length_take];omega),List.getElem?_take,if_pos d]
   by_cases e:j<o+ys.length
   . rw[if_pos ⟨by omega,e⟩,List.append_assoc,List.getElem?_append_right (by rw[List.length_take];omega),List.length_take,Nat.min_eq_left (by omega),List.getElem?_append_left (by omega)]
   . rw[if_neg (by omega),b j a,List.getElem?_append_right (by rw[List.length_append,List.length_take];omega),List.getElem?_drop,List.length_append,List.length_take,Nat.min_eq_left (by omega)]
     congr 1
     omega
 . rw[if_neg a,List.getElem?_eq_none (by rw[List.length_append,List.length_append,List.length_take,List.length_drop];omega)]
theorem Bk.put {S0:Nat->Prop} {b s:Nat} {e:TypeId} {w:World} {l:List D} {d:D} {ys:List Value} {g i n c:Nat} (h:Bk S0 b e s w l (.slice (some ⟨g,0,none⟩) n c)) (I:i<l.length) (C:d.cells=s) (E:Ai (fun i=>S0 i/\g≠i) w d ys):
 Bk S0 b e s (A4 w g (i*s) ys) (l.set i d) (.slice (some ⟨g,0,none⟩) n c):=by
 obtain⟨ns,F,r,A⟩:=h;have z:ys.length=s:=E.now.len.1.trans C;have v:ns.length=l.length*s:=by rw[A.now.len.1,Ge r]
 have J:i*s+s<=l.length*s:=by
  have:=Nat.mul_le_mul_right s (show i+1<=l.length by omega)
  rwa [Nat.add_mul,Nat.one_mul]at this
 have y:=Ba ys w g (i*s);have H:=fun c (G:c≠g)=>Ay ys w g (i*s) c G;rcases F.2 with⟨e1,_⟩|⟨g',cap,cur,e1,hbg,hg,hnc,hcm,hcs,hcx⟩
 . cases e1
 . cases e1
   have u: ∀a:World,w.heap.size<=a.heap.size->(∀p:Addr,S0 p.block/\(Value.slice (some ⟨g,0,none⟩) l.length c).ownBlock≠some p.block->p.block<w.heap.size->a.cell? p=(A4 w g (i*s) ys).cell? p)-> ∀p:Addr,S0 p.block/\g≠p.block->p.block<w.heap.size->a.cell? p=w.cell? p:=fun a k q p f o=>by
    rw[q p ⟨f.1,fun e=>f.2 (Option.some.inj e)⟩ o];exact World.cell?_of_block (H p.block fun e=>f.2 e.symm)
   have B:=A.split r;have m:l.set i d=l.take i++ [d]++l.drop (i+1):=by
    rw[List.set_eq_take_append_cons_drop,if_pos I];simp
   refine⟨ns.take (i*s)++ys++ns.drop (i*s+ys.length),⟨?_,.inr ⟨g,c,R6 cur (i*s) ys,by rw[List.length_set],hbg,Lm ys hg,by rw[List.length_set];exact hnc,hcm,by rw[Qe];exact hcs, ?_⟩⟩,fun x j=> ?_,fun a k q=> ?_⟩
   . rw[List.length_set,List.length_append,List.length_append,List.length_take,List.length_drop];omega
   . rw[List.length_set];exact Agk hcx v (by omega)
   . rcases List.mem_or_eq_of_mem_set j with j|rfl
     . exact r x j
     . exact C
   . rw[y]at k q ⊢;have t:=u a k q;rw[m,z,show i*s+s=(i+1)*s from by rw[Nat.add_mul,Nat.one_mul]];exact(((B i).1 a k fun p f o=>t p ⟨f.1,fun e=>f.2 (by rw[e];rfl)⟩ o).app (Ah.one (E a k t))).app ((B (i+1)).2 a k fun p f o=>t p ⟨f.1,fun e=>f.2 (by rw[e];rfl)⟩ o)
theorem Nt: ∀(n m:Nat) (l:List UInt8),l.length<=n->l.length<=m->Lib.validGoD n l=Lib.validGoD m l
 |0,m,l,hn,hm=>by
  obtain rfl:l= []:=List.eq_nil_of_length_eq_zero (by omega)
  cases m<;>simp[Lib.validGoD]
 |n+1,0,l,hn,hm=>by
  obtain rfl:l= []:=List.eq_nil_of_length_eq_zero (by omega);simp[Lib.validGoD]
 |n+1,m+1,l,hn,hm=>by
  simp only[Lib.validGoD];by_cases h:l= []
  . simp[h]
  . rw[if_neg h,if_neg h]
    split
    . rfl
    . have b:=Lib.decodeL_width l;have a:0<l.length:=List.length_pos_iff.2 h;exact Nt n m _ (by rw[List.length_drop];omega) (by rw[List.length_drop];omega)
theorem Kf {l:List UInt8} (h:l≠ []):Lib.validD l=if(Lib.decodeL l).1=65533/\(Lib.decodeL l).2=1 then false else Lib.validD (l.drop (Lib.decodeL l).2):=by
 have c:=Lib.decodeL_width l;have b:0<l.length:=List.length_pos_iff.2 h;unfold Lib.validD;obtain⟨n,a⟩: ∃n,l.length=n+1:=⟨l.length - 1,by omega⟩;rw[a];simp only[Lib.validGoD];rw[if_neg h]
 split
 . rfl
 . exact Nt _ _ _ (by rw[List.length_drop];omega) (Nat.le_refl _)
theorem Ag8 {l:List UInt8} (h:l≠ []):((Gc l).2=0/\Lib.validD l=false)\/(∃n:Nat,(Gc l).2=(n:Int)/\1<=n/\n<=l.length/\Lib.validD l=Lib.validD (l.drop n)):=by
 have a:=K4 l h;unfold I0 at a;rw[Kf h];by_cases b:(Lib.decodeL l).1=65533/\(Lib.decodeL l).2=1
 . rw[if_pos b]at a ⊢;rw[a];exact .inl ⟨rfl,rfl⟩
 . rw[if_neg b]at a ⊢;rw[a];have c:=Lib.decodeL_width l;exact .inr ⟨(Lib.decodeL l).2,rfl,c,Lib.decodeL_le l h,rfl⟩
theorem Ou (s:ByteArray) (w:World) (p:s.size<=1000000000):
 Calls Tryz.prog 66 #[.string s] w fun e w'=>e=.returned (.bool (A6 s))/\w=w':=by
 obtain⟨V,g⟩: ∃V,A6 s=V:=⟨_,rfl⟩;rw[g];have h:=qz g;clear g;go_enter Tryz.func66,Tryz.ntmps66;go_wp2
 go_loop [3] (fun i=> ∃k:Nat,k<=s.size/\i=.int .i64 k/\Hid (Lib.validD (s.data.toList.drop k)=V)) (fun i=>s.size - (intOf i).toNat)
 case atStart=>exact⟨0,Nat.zero_le _,rfl,h⟩
 case round=>
  obtain⟨k,o,rfl,d⟩:=hrel;clear h;by_cases l:k<s.size
  . have c:s.data.toList.drop k≠ []:=by
     intro e;have:=congrArg List.length e;rw[List.length_drop,<-Lib.size_eq]at this;simp at this;omega
    have b:=Si s k w (by omega) (by omega);rcases Ag8 c with⟨h0,hv⟩|⟨n,hn,hn1,hn2,hv⟩
    . have a:=d.out;rw[hv]at a;subst a;rw[h0]at b;generalize (Gc (s.data.toList.drop k)).1=R at b;have f:=qz b;clear b h0 hv c d;go_wp2_with (go_at_call 123;refine(f.out).mono ?_;rintro e w' ⟨rfl,rfl⟩);go_ret;exact⟨rfl,rfl⟩
    . have a:=d.out;rw[hv,List.drop_drop]at a;have j:=qz a;rw[hn]at b;rw[List.length_drop,<-Lib.size_eq]at hn2;generalize (Gc (s.data.toList.drop k)).1=R at b;have f:=qz b;clear b hn hv c d a;have m:((n:Int)==0)=false:=by simp;omega
      go_wp2_with (go_at_call 123;refine(f.out).mono ?_;rintro e w' ⟨rfl,rfl⟩)
      go_round
      case rel=>exact⟨k+n,by omega,by go_num,j⟩
      case measure=>simp[intOf];omega
  . obtain rfl:k=s.size:=by omega
    have a:=d.out;rw[List.drop_eq_nil_of_le (by rw[<-Lib.size_eq];omega)]at a;have:V=true:=by rw[<-a];rfl
    subst this;clear d a;go_wp2;go_ret;exact⟨rfl,rfl⟩
def dgt (d:Nat):UInt8:=UInt8.ofNat (48+d)
def F3 (u:Nat):List UInt8:=if _h:u=0 then []else F3 (u / 10)++ [dgt (u % 10)]
termination_by u
decreasing_by omega
theorem Hy:F3 0= []:=by rw[F3,dif_pos rfl]
theorem Kp {u:Nat} (h:u≠0):F3 u=F3 (u / 10)++ [dgt (u % 10)]:=by rw[F3,dif_neg h]
theorem Jt (u:Nat):u≠0->F3 u=Lib.decDigits u:=by
 induction u using Nat.strongRecOn with
 |_ u ih=>
  intro h;rw[Kp h,Lib.decDigits];unfold dgt;by_cases a:u<10
  . rw[dif_pos a,show u / 10=0 from by omega,Hy,show u % 10=u from by omega,List.nil_append]
  . rw[dif_neg a,ih (u / 10) (by omega) (by omega)]
theorem Zr {u:Nat} (h:(u:Int)<=9223372036854775808):(F3 u).length<=30:=by
 by_cases h0:u=0
 . subst h0;rw[Hy];simp
 . rw[Jt u h0,Lib.decDigits_length];exact Nat.le_trans (Lib.nDigits_le20 u (by omega)) (by omega)
theorem Yi (S:ByteArray) (d e:Nat) (a:d<=e) (b:e<=S.size) (w:World):(Instr.slice 9 (.string S) (some (.int .i64 d)) (some (.int .i64 e)) none).run Tryz.prog w=.ok (.string (S.extract d e)) w:=by
 simp[Instr.slice,run_underlying Tryz.underlying9,Instr.sliceBounds,go_sem,a,b]
theorem Aia: ∀d:Fin 10,(⟨#[48,49,50,51,52,53,54,55,56,57]⟩:ByteArray).extract d.val (d.val+1)=⟨#[dgt d.val]⟩:=by decide
theorem Wl (d:Nat) (a:d<10) (w:World):(Instr.slice 9 (.string ⟨#[48,49,50,51,52,53,54,55,56,57]⟩) (some (.int .i64 d)) (some (.int .i64 ((d:Int)+1))) none).run Tryz.prog w=.ok (.string ⟨#[dgt d]⟩) w:=by
 have:=Yi ⟨#[48,49,50,51,52,53,54,55,56,57]⟩ d (d+1) (by omega) (by show d+1<=10;omega) w;rw[Aia ⟨d,a⟩]at this;exact this
set_option maxRecDepth 20000 in
theorem Aci (a:Nat) (r:a≠0) (B:(a:Int)<=9223372036854775807) (w:World):
 Calls Tryz.prog 126 #[.int .i64 a] w fun e w'=>e=.returned (.string ⟨(Lib.itoa a).toArray⟩)/\w=w':=by
 have i:Lib.itoa a=F3 a:=by
  rw[Jt a r,Lib.itoa,if_neg (by omega)];simp
 rw[i];have j:=Zr (u:=a) (by omega);have h:Hid (F3 a++(⟨#[]⟩:ByteArray).data.toList=F3 a):=by show _=_;simp
 clear i;go_enter Tryz.func126,Tryz.ntmps126;have f:((a:Int)==0)=false:=by simp;omega
 go_wp2
 go_loop [3,4] (fun s m=> ∃(T:ByteArray) (u:Nat),s=.string T/\m=.int .i64 u/\u<=a/\Hid (F3 u++T.data.toList=F3 a)) (fun _ m=>(intOf m).toNat)
 case atStart=>exact⟨_,a,rfl,rfl,Nat.le_refl _,h⟩
 case round=>
  obtain⟨T,u,rfl,rfl,C,c⟩:=hrel;clear h;have p:T.size<=30:=by
   have o:=congrArg List.length c.out;rw[List.length_append]at o;have z:T.data.toList.length=T.size:=by rw[Array.length_toList];rfl
   omega
  by_cases g:u=0
  . subst g;have b:=c.out;rw[Hy,List.nil_append]at b;have n:=qz (show(⟨(F3 a).toArray⟩:ByteArray)=T from by rw[<-b]);clear c b f j;have h0:((a:Int)<0)=False:=by simp
    go_wp2;go_ret;exact⟨by rw[n.out];rfl,rfl⟩
  . have y:((u:Int)==0)=false:=by simp;omega
    have b:Hid (F3 (u / 10)++((⟨#[dgt (u % 10)]⟩:ByteArray)++T).data.toList=F3 a):=by
     have:=c.out;rw[Kp g]at this;show _=_;rw[<-this,ByteArray.data_append,Array.toList_append];simp
    have A:=Wl (u % 10) (by omega) w;have k:(u:Int) % 10=((u % 10:Nat):Int):=by omega
    have l:(u:Int) / 10=((u / 10:Nat):Int):=by omega
    have v:u % 10<10:=by omega
    have x:u / 10<u:=by omega
    generalize u % 10=d at*
    generalize u / 10=q at*
    have t:decide ((d:Int)<0)=false:=by simp
    clear c f j;go_wp2
    go_round
    case rel=>exact⟨_,q,rfl,rfl,by omega,b⟩
    case measure=>simp[intOf];omega
set_option maxRecDepth 20000 in
theorem Ach (a:Nat) (S:a≠0) (Z:(a:Int)<=9223372036854775808) (n:Int) (p:n= -(a:Int)) (w:World):
 Calls Tryz.prog 126 #[.int .i64 n] w fun e w'=>e=.returned (.string ⟨(Lib.itoa n).toArray⟩)/\w=w':=by
 have y:Lib.itoa n=45::F3 a:=by
  rw[Jt a S,Lib.itoa,if_pos (by omega),p];simp
 rw[y];have o:=Zr (u:=a) (by omega);have r:Hid (F3 a++(⟨#[]⟩:ByteArray).data.toList=F3 a):=by show _=_;simp
 have A:=qz p;have h:(n==0)=false:=by simp;omega
 have W:n<0:=by omega
 clear y p;go_enter Tryz.func126,Tryz.ntmps126;go_wp2
 go_loop [3,4] (fun s m=> ∃(T:ByteArray) (M:Int) (u:Nat),s=.string T/\m=.int .i64 M/\Hid (M= -(u:Int))/\u<=a/\Hid (F3 u++T.data.toList=F3 a)) (fun _ m=>(-(intOf m)).toNat)
 case atStart=>exact⟨_,n,a,rfl,rfl,A,Nat.le_refl _,r⟩
 case round=>
  obtain⟨T,M,u,rfl,rfl,k,hu,i⟩:=hrel;clear r;have R:T.size<=30:=by
   have B:=congrArg List.length i.out;rw[List.length_append]at B;have Y:T.data.toList.length=T.size:=by rw[Array.length_toList];rfl
   omega
  have b:=k.out;by_cases j:u=0
  . subst j;obtain rfl:M=0:=by simpa using b
    have c:=i.out;rw[Hy,List.nil_append]at c;have v:(⟨(45::F3 a).toArray⟩:ByteArray)=⟨#[45]⟩++T:=by
     apply ByteArray.ext;rw[ByteArray.data_append];apply Array.ext';rw[Array.toList_append,c];simp
    have z:=qz v;clear i c v h o k b;go_wp2;go_ret;exact⟨by rw[z.out];rfl,rfl⟩
  . have c:Hid (F3 (u / 10)++((⟨#[dgt (u % 10)]⟩:ByteArray)++T).data.toList=F3 a):=by
     have:=i.out;rw[Kp j]at this;show _=_;rw[<-this,ByteArray.data_append,Array.toList_append];simp
    have H:(M==0)=false:=by simp;omega
    have I: -9223372036854775808<=M:=by omega
    have J:M<0:=by omega
    have x:=Wl (u % 10) (by omega) w;obtain⟨D,C⟩: ∃D,M.tmod 10=D:=⟨_,rfl⟩;obtain⟨Q,L⟩: ∃Q,M.tdiv 10=Q:=⟨_,rfl⟩;have f:D= -((u % 10:Nat):Int):=by
     rw[<-C,b,Int.neg_tmod,Int.tmod_eq_emod_of_nonneg (by omega)];omega
    have g:Q= -((u / 10:Nat):Int):=by
     rw[<-L,b,Int.neg_tdiv,Int.tdiv_eq_ediv_of_nonneg (by omega)];omega
    have V:u % 10<10:=by omega
    have X:u / 10<u:=by omega
    generalize u % 10=d at*
    generalize u / 10=q at*
    have t:=qz g;have K:M<Q:=by omega
    have N: -9223372036854775808<=Q:=by omega
    have O:Q<=0:=by omega
    have P:Q<=9223372036854775807:=by omega
    by_cases l:d=0
    . subst l;obtain rfl:D=0:=by simpa using f
      have U:(Instr.slice 9 (.string ⟨#[48,49,50,51,52,53,54,55,56,57]⟩) (some (.int .i64 0)) (some (.int .i64 1)) none).run Tryz.prog w=.ok (.string ⟨#[dgt 0]⟩) w:=x;clear i h o k f g b x;go_wp2
      go_round
      case rel=>exact⟨_,Q,q,rfl,rfl,t,by omega,c⟩
      case measure=>simp only[intOf];omega
    . have G:D<0:=by omega
      have E: -10<D:=by omega
      have F: -D=(d:Int):=by omega
      clear i h o k f g;clear b;go_wp2
      go_round
      case rel=>exact⟨_,Q,q,rfl,rfl,t,by omega,c⟩
      case measure=>simp only[intOf];omega
theorem Xg (n:Int) (a: -9223372036854775808<=n) (b:n<=9223372036854775807) (w:World):
 Calls Tryz.prog 126 #[.int .i64 n] w fun e w'=>e=.returned (.string ⟨(Lib.itoa n).toArray⟩)/\w=w':=by
 by_cases h0:n=0
 . subst h0;have e:(⟨(Lib.itoa 0).toArray⟩:ByteArray)=⟨#[48]⟩:=by
    have:Lib.itoa 0= [48]:=by
     rw[Lib.itoa,if_neg (by omega)];exact Lib.decDigits_one (i:=0) (by omega)
    rw[this]
   rw[e];go_enter Tryz.func126,Tryz.ntmps126;go_wp2;go_ret;exact⟨rfl,rfl⟩
 . rcases Int.lt_or_le n 0 with h|h
   . exact Ach n.natAbs (by omega) (by omega) n (by omega) w
   . have:=Aci n.toNat (by omega) (by omega) w
     rwa [show((n.toNat:Nat):Int)=n from by omega]at this
theorem Up (v:Val) (cs:List Value) (w:World) (g:Ab w w.heap.size v cs) (h:v.bulk<=100000000):
 Calls Tryz.prog 125 #[.agg cs.toArray] w (Kz w v):=by
 obtain⟨k,b,n,t,l,o⟩:=v;simp only[Ab]at g;obtain⟨i,j,m,oc,rfl,a,c⟩:=g;simp only[Val.bulk]at h;by_cases d:k=5
 . subst d;exact Abq b n t l o i m oc j w a (by omega)
 by_cases e:k=6
 . subst e;exact Ad7 b n t l o i m oc j w c (by omega)
 have f:=qz (show within (.mk k b n t l o)= []from by simp[within,d,e]);have p:(k==5)=false:=by simpa using d
 have q:(k==6)=false:=by simpa using e
 clear a c h d e;go_enter Tryz.func125,Tryz.ntmps125;go_wp2;go_ret;exact⟨⟨none,0,by rw[f.out];rfl,.inl f.out⟩,(Below.refl _ _).alloc (Nat.le_refl _) _⟩
theorem Vu: ∀o:List (ByteArray×Val),Ip o=Ey (o.map (·.2))
 | []=>rfl
 |(k,v)::r=>by simp only[Ip,Zo,List.map_cons,Ey,Vu r]
theorem Xf (v:Val):Ej v=1+Ey (within v):=by
 obtain⟨k,b,n,t,l,o⟩:=v;simp only[Ej,within];by_cases a:k=5
 . simp[a]
 by_cases c:k=6
 . simp[c,Vu]
 . simp[a,c,Ey]
theorem Vr: ∀o:List (ByteArray×Val),A5 (o.map (·.2))<=Af o
 | []=>by simp[A5]
 |(k,v)::r=>by
  have:=Vr r;simp only[List.map_cons,A5,Af,E7];omega
theorem Abp (v:Val):A5 (within v)<=v.bulk:=by
 obtain⟨k,b,n,t,l,o⟩:=v;have:=Vr o;simp only[within,Val.bulk]
 split
 . omega
 split
 . omega
 . simp[A5]
def Abz (v:Val):Prop:= ∀(cs:List Value) (w:World),Ab w w.heap.size v cs->v.bulk<=100000000->
    Calls Tryz.prog 68 #[.agg cs.toArray] w fun e w'=>e=.returned (.int .i64 (Ej v))/\Below w.heap.size w w'
theorem Adi (v:Val) (IH: ∀x ∈ within v,Abz x):Abz v:=by
 intro cs w U hb;have G:=U;have c:=Abp v;have ac:=C9 (within v);have W:=O2 (within v) (fun x _=>Ko x);have y:=fun w' (h:Below w.heap.size w w')=>Up v cs w' (Ab.more h.size _ _ (U.below h)) hb;rw[Xf];unfold Kz at y;generalize within v=L at*
 obtain⟨k,b,n,t,l,o⟩:=v;simp only[Ab]at G;obtain⟨la,lc,oa,oc,rfl,_,_⟩:=G;obtain⟨HI,HW⟩:=hid2 IH y;obtain⟨M,T⟩: ∃M,Ey L=M:=⟨_,rfl⟩;rw[T]at W ⊢;have Z:Hid (max 0 (Ey (L.drop 0))=M):=by show _=_;rw[List.drop_zero,T];simp
 have q:Hid (Below w.heap.size w (w.alloc (.cells (Eb k b n t la l.length lc oa o.length oc).toArray 42))):=(Below.refl _ _).alloc (Nat.le_refl _) _;clear IH y T U;go_enter Tryz.func68,Tryz.ntmps68;go_wp2_with (fail);(with_reducible refine(HW.out _ q.out).mono ?_);rintro e u ⟨⟨N,Y,rfl,J⟩,H⟩;have S:=qz J;have B:=qz (q.out.trans (H.mono q.out.size));clear J H q HW;go_wp2_with (fail);have C:Hid (Below u.heap.size u u):=Below.refl _ _;go_loopw [3,5] (fun m i wr=> ∃D k:Nat,m=.int .i64 D/\i=.int .i64 k/\k<=L.length/\Hid (max D (Ey (L.drop k))=M)/\D<=M/\Hid (Below u.heap.size u wr)) (fun _ i _=>L.length - (intOf i).toNat)
 case atStart=>exact⟨0,0,rfl,rfl,Nat.zero_le _,Z,Nat.zero_le _,C⟩
 case round=>
  obtain⟨D,k,rfl,rfl,hk,P,aa,c⟩:=hrel;clear Z C;by_cases z:k<L.length
  . obtain⟨g,A,rfl,hg,hL⟩: ∃g A,N=some ⟨g,A,none⟩/\g<u.heap.size/\Aq u u.heap.size L g A:=by
     rcases S.out with h|h
     . rw[h]at z;simp at z
     . exact h
    obtain⟨x,Q⟩: ∃v,L[k]? =some v:=⟨_,List.getElem?_eq_getElem z⟩;have p:x ∈ L:=List.mem_of_getElem? Q;have V:=Dp p;have I:=Ko x;have j:L.drop k=x::L.drop (k+1):=Cr Q;have a:=P.out;rw[j]at a;simp only[Ey]at a;have E:=HI.out x p;have X:=c.out.size;obtain⟨m,hm⟩: ∃m,Ej x=m:=⟨_,rfl⟩;obtain⟨k',b',n',t',l',o'⟩:=x;obtain⟨N,Y,ad,ae,K,c0,c1,c2,c3,c4,c5⟩:=(hL.below hg c.out).six Q;have R:=E _ wr (Ab.more X _ _ K) (by omega);rw[hm]at R a I;have r:=qz R;have O:Hid (max (max D m) (Ey (L.drop (k+1)))=M):=by show _=_;omega
    have s:max D m<=M:=by omega
    clear R P a j E hm K Q p hL hg I V;by_cases ab:D<m
    . have F:max D m=m:=by omega
      rw[F]at O s;clear F;go_wp2_with (fail);(with_reducible refine r.out.mono ?_);rintro e w4 ⟨rfl,d⟩;have f:=qz (c.out.trans (d.mono X));clear d c r;go_wp2;go_roundw
      case rel=>exact⟨m,k+1,rfl,by go_num,by omega,O,s,f⟩
      case measure=>simp only[intOf];omega
    . have F:max D m=D:=by omega
      rw[F]at O s;clear F;go_wp2_with (fail);(with_reducible refine r.out.mono ?_);rintro e w4 ⟨rfl,d⟩;have f:=qz (c.out.trans (d.mono X));clear d c r;go_wp2;go_roundw
      case rel=>exact⟨D,k+1,rfl,by go_num,by omega,O,s,f⟩
      case measure=>simp only[intOf];omega
  . obtain rfl:k=L.length:=by omega
    have a:=P.out;rw[List.drop_length]at a;simp only[Ey]at a;obtain rfl:D=M:=by omega
    have Hc:=qz (show(D:Int)+1=((1+D:Nat):Int)from by omega);clear P a;go_wp2;go_ret;exact⟨by rw[<-Hc.out];rfl,B.out.trans (c.out.mono B.out.size)⟩
theorem Aa0: ∀v,Abz v:=by
 refine Val.ind ?_;intro k b n t l o c d;refine Adi _ (fun x a=> ?_);simp only[within]at a
 split at a
 . exact c x a
 split at a
 . obtain⟨m,e,rfl⟩:=List.mem_map.1 a;exact d m e
 . cases a
def Cn (p:Prop) (w:World) (e:Ending) (w':World):Prop:= ∃B:Bool,e=.returned (.bool B)/\(B=true ↔ p)/\Below w.heap.size w w'
theorem Cn.no {p:Prop} {w w':World} (h: ¬p) (a:Below w.heap.size w w'):Cn p w (.returned (.bool false)) w':=⟨false,rfl,by simp[h],a⟩
theorem Cn.yes {p:Prop} {w w':World} (h:p) (a:Below w.heap.size w w'):Cn p w (.returned (.bool true)) w':=⟨true,rfl,by simp[h],a⟩
def EqC (a:Val):Prop:= ∀(b:Val) (cs cs':List Value) (w:World),Ab w w.heap.size a cs->Ab w w.heap.size b cs'->a.bulk<=100000000->b.bulk<=100000000->
    Calls Tryz.prog 32 #[.agg cs.toArray,.agg cs'.toArray] w (Cn (a=b) w)
theorem Jl {B:Nat} {a w:World} (h:Below B a w) (n:Nat):Below B a (w.drewN n):=⟨h.os,h.tape,h.output,h.size,h.block⟩
theorem D3 (w:World) (o o':Obj):Below w.heap.size w ((w.alloc o).alloc o'):=(Aa w o).alloc (by simp) _
theorem Zt {W w1:World} (a:Below W.heap.size W w1):(∀b o,b<W.heap.size->w1.cell? ⟨b,o,none⟩=W.cell? ⟨b,o,none⟩)/\(∀b o,b<W.heap.size->w1.frozen? ⟨b,o,none⟩=W.frozen? ⟨b,o,none⟩):=
 ⟨fun b o h=>a.cell (p:=⟨b,o,none⟩) h,fun b o h=>a.frozen (p:=⟨b,o,none⟩) h⟩
theorem Aku (k j:Int) (b b':Bool) (n m:Int) (t f:ByteArray) (z B u x:Option Addr) (l A on oc a v c y:Nat) (w:World) (p:Prop) (d: ¬p) (h:k≠j\/b≠b'\/n≠m\/t≠f\/l≠a\/on≠c):
 Calls Tryz.prog 32 #[.agg #[.int .i64 k,.bool b,.int .i64 n,.string t,.slice z l A,.slice B on oc],.agg #[.int .i64 j,.bool b',.int .i64 m,.string f,.slice u a v,.slice x c y]] w (Cn p w):=by
 by_cases q:k=j;rotate_left
 . have e:(k != j)=true:=by simpa using q
   clear h q;go_enter Tryz.func32,Tryz.ntmps32;go_wp2;go_ret;exact Cn.no d (D3 _ _ _)
 subst q;by_cases o:b=b';rotate_left
 . clear h
   cases b<;>cases b'<;>first|exact absurd rfl o|(clear o;go_enter Tryz.func32,Tryz.ntmps32;go_wp2;go_ret;exact Cn.no d (D3 _ _ _))
 subst o;by_cases r:n=m;rotate_left
 . have e:(n != m)=true:=by simpa using r
   clear h r;go_enter Tryz.func32,Tryz.ntmps32;go_wp2;go_ret;exact Cn.no d (D3 _ _ _)
 subst r;by_cases s:t=f;rotate_left
 . have e:(t.toList != f.toList)=true:=by simp only[bne_iff_ne];exact fun e=>s (by rw[Lib.toList_data,Lib.toList_data]at e;exact ByteArray.ext (Array.ext' e))
   have C:(t.toList==f.toList)=false:=by simpa using e
   have D: ¬t.toList=f.toList:=by simpa using e
   clear h s;go_enter Tryz.func32,Tryz.ntmps32;go_wp2;go_ret;exact Cn.no d (D3 _ _ _)
 subst s;by_cases g:l=a;rotate_left
 . have e:((l:Int) != (a:Int))=true:=by simp;omega
   clear h g;go_enter Tryz.func32,Tryz.ntmps32;go_wp2;go_ret;exact Cn.no d (D3 _ _ _)
 subst g;by_cases i:on=c;rotate_left
 . have e:((on:Int) != (c:Int))=true:=by simp;omega
   clear h i;go_enter Tryz.func32,Tryz.ntmps32;go_wp2;go_ret;exact Cn.no d (D3 _ _ _)
 subst i;simp at h
def EA (w:World) (b1 b2:Array Value) (wr:World):Prop:=Below w.heap.size w wr/\Ap wr w.heap.size 42 b1/\Ap wr (w.heap.size+1) 42 b2
theorem EA.step {w:World} {b c:Array Value} {wr w4:World} (h:EA w b c wr) (a:Below wr.heap.size wr w4):EA w b c w4:=⟨h.1.trans (a.mono h.1.size),h.2.1.below a h.2.1.lt,h.2.2.below a h.2.2.lt⟩
theorem Oh {c:Type} {l l':List c} {q:Nat} {x b:c} (h:l.take q=l'.take q) (d:l[q]? =some x) (a:l'[q]? =some b) (e:x=b):l.take (q+1)=l'.take (q+1):=by
 rw[List.take_add_one,List.take_add_one,d,a,h,e]
theorem Tt {c:Type} {l l':List c} {q:Nat} {x b:c} (d:l[q]? =some x) (a:l'[q]? =some b) (e:x≠b):l≠l':=by
 rintro rfl;rw[d]at a;exact e (Option.some.inj a)
theorem Akv (k:Int) (b:Bool) (n:Int) (t:ByteArray) (l l':List Val) (o o':List (ByteArray×Val)) (Q X r u:Option Addr) (T oc s y:Nat) (w:World) (IH: ∀v ∈ l,EqC v) (ao: ∀m ∈ o,EqC m.2)
 (au:l.length=l'.length) (aw:o.length=o'.length)
 (hl:l= []\/ ∃g a,Q=some ⟨g,a,none⟩/\g<w.heap.size/\Aq w w.heap.size l g a) (ar:l'= []\/ ∃g a,r=some ⟨g,a,none⟩/\g<w.heap.size/\Aq w w.heap.size l' g a)
 (ho:o= []\/ ∃g a,X=some ⟨g,a,none⟩/\g<w.heap.size/\An w w.heap.size o g a) (av:o'= []\/ ∃g a,u=some ⟨g,a,none⟩/\g<w.heap.size/\An w w.heap.size o' g a)
 (a7:A5 l<=100000000) (a4:A5 l'<=100000000) (a8:Af o<=100000000) (a5:Af o'<=100000000):
 Calls Tryz.prog 32 #[.agg #[.int .i64 k,.bool b,.int .i64 n,.string t,.slice Q l.length T,.slice X o.length oc],.agg #[.int .i64 k,.bool b,.int .i64 n,.string t,.slice r l.length s,.slice u o.length y]] w (Cn (l=l'/\o=o') w):=by
 have a9:=C9 l;have ba:=B5 o;have ap:EA w #[.int .i64 k,.bool b,.int .i64 n,.string t,.slice Q l.length T,.slice X o.length oc] #[.int .i64 k,.bool b,.int .i64 n,.string t,.slice r l.length s,.slice u o.length y] ((w.alloc (.cells #[.int .i64 k,.bool b,.int .i64 n,.string t,.slice Q l.length T,.slice X o.length oc] 42)).alloc (.cells #[.int .i64 k,.bool b,.int .i64 n,.string t,.slice r l.length s,.slice u o.length y] 42)):=by
  refine⟨D3 _ _ _,(Ap.new w 42 #[.int .i64 k,.bool b,.int .i64 n,.string t,.slice Q l.length T,.slice X o.length oc]).alloc _, ?_⟩;have:=Ap.new (w.alloc (.cells #[.int .i64 k,.bool b,.int .i64 n,.string t,.slice Q l.length T,.slice X o.length oc] 42)) 42 #[.int .i64 k,.bool b,.int .i64 n,.string t,.slice r l.length s,.slice u o.length y];simpa using this
 have aj:=qz (show l.take 0=l'.take 0 from by simp);obtain⟨az,al,ad,am,an,Hl,a0,Ho,a1⟩:=hid9 IH ao ap au aw hl ar ho av;clear ap au aw hl ar ho av;clear IH ao;go_enter Tryz.func32,Tryz.ntmps32;go_wp2_with (fail);obtain⟨w0,ax⟩: ∃w0,(w.alloc (.cells #[.int .i64 k,.bool b,.int .i64 n,.string t,.slice Q l.length T,.slice X o.length oc] 42)).alloc (.cells #[.int .i64 k,.bool b,.int .i64 n,.string t,.slice r l.length s,.slice u o.length y] 42)=w0:=⟨_,rfl⟩;rw[ax]at ad ⊢;clear ax;go_loopw [5] (fun i wr=> ∃q:Nat,i=.int .i64 q/\q<=l.length/\Hid (l.take q=l'.take q)/\Hid (EA w #[.int .i64 k,.bool b,.int .i64 n,.string t,.slice Q l.length T,.slice X o.length oc] #[.int .i64 k,.bool b,.int .i64 n,.string t,.slice r l.length s,.slice u o.length y] wr)) (fun i _=>l.length - (intOf i).toNat)
 case atStart=>exact⟨0,rfl,Nat.zero_le _,aj,ad⟩
 case round=>
  obtain⟨q,rfl,hq,C,d⟩:=hrel;clear aj ad;have m1:=d.out.2.1.cell 4;have m2:=d.out.2.2.cell 4;by_cases F:q<l.length
  . have f:q<l'.length:=by have:=am.out;omega
    obtain⟨g,a,rfl,hg,L⟩: ∃g a,Q=some ⟨g,a,none⟩/\g<w.heap.size/\Aq w w.heap.size l g a:=Hl.out.resolve_left (by intro e;rw[e]at F;simp at F);obtain⟨z,c,rfl,ah,D⟩: ∃g a,r=some ⟨g,a,none⟩/\g<w.heap.size/\Aq w w.heap.size l' g a:=a0.out.resolve_left (by intro e;rw[e]at f;simp at f);obtain⟨x,I⟩: ∃v,l[q]? =some v:=⟨_,List.getElem?_eq_getElem F⟩;obtain⟨x',j⟩: ∃v,l'[q]? =some v:=⟨_,List.getElem?_eq_getElem f⟩;have H:=az.out _ (List.mem_of_getElem? I);have aq:=Dp (List.mem_of_getElem? I);have ac:=Dp (List.mem_of_getElem? j);have:=trivial;have A:=d.out.1;have hz:=A.size;have hT:=fun e=>Oh C.out I j e;have hN:=fun e=>Tt I j e;obtain⟨xv,G⟩: ∃xv,x=xv:=⟨_,rfl⟩;obtain⟨ai,p⟩: ∃xv,x'=xv:=⟨_,rfl⟩;obtain⟨k1,b1,n1,t1,l1,o1⟩:=x;obtain⟨k2,b2,n2,t2,l2,o2⟩:=x';obtain⟨R,U,Y,aa,N,c0,c1,c2,c3,c4,c5⟩:=(L.below hg A).six I;obtain⟨S,V,Z,ab,O,d0,d1,d2,d3,d4,d5⟩:=(D.below ah A).six j;have hC: ∀W,Below wr.heap.size wr W->Calls Tryz.prog 32 #[.agg #[.int .i64 k1,.bool b1,.int .i64 n1,.string t1,.slice R l1.length U,.slice Y o1.length aa],.agg #[.int .i64 k2,.bool b2,.int .i64 n2,.string t2,.slice S l2.length V,.slice Z o2.length ab]] W (Cn (xv=ai) W):=fun W hW=>by
     rw[<-G,<-p];exact H _ _ _ W (Ab.more (Nat.le_trans hz hW.size) _ _ (N.below (hW.mono hz))) (Ab.more (Nat.le_trans hz hW.size) _ _ (O.below (hW.mono hz))) (by omega) (by omega)
    rw[G,p]at hT hN;have z1:g<wr.heap.size:=by omega
    have z2:z<wr.heap.size:=by omega
    have z3:w.heap.size<wr.heap.size:=d.out.2.1.lt;have z4:w.heap.size+1<wr.heap.size:=d.out.2.2.lt;have z5:(q:Int)<(l.length:Int):=by omega
    obtain⟨HC,HT,HN⟩:=hid3 hC hT hN;clear hC hT hN;clear A N O I j H L D G p C;go_wp2_with (fail)
    go_region_held3 (fun W=>W.cell? ⟨w.heap.size,4,none⟩=some (.slice (some ⟨g,a,none⟩) l.length T)/\W.cell? ⟨w.heap.size+1,4,none⟩=some (.slice (some ⟨z,c,none⟩) l.length s)/\W.cell? ⟨g,a+q*6,none⟩=some (.int .i64 k1)/\W.cell? ⟨g,a+q*6+1,none⟩=some (.bool b1)/\W.cell? ⟨g,a+q*6+2,none⟩=some (.int .i64 n1)/\W.cell? ⟨g,a+q*6+3,none⟩=some (.string t1)/\W.cell? ⟨g,a+q*6+4,none⟩=some (.slice R l1.length U)/\W.cell? ⟨g,a+q*6+5,none⟩=some (.slice Y o1.length aa)/\W.cell? ⟨z,c+q*6,none⟩=some (.int .i64 k2)/\W.cell? ⟨z,c+q*6+1,none⟩=some (.bool b2)/\W.cell? ⟨z,c+q*6+2,none⟩=some (.int .i64 n2)/\W.cell? ⟨z,c+q*6+3,none⟩=some (.string t2)/\W.cell? ⟨z,c+q*6+4,none⟩=some (.slice S l2.length V)/\W.cell? ⟨z,c+q*6+5,none⟩=some (.slice Z o2.length ab)) (go_keep) (first|(go_at_call 32;refine(HC.out _ ?_).mono ?_;(exact(Below.drew (Below.refl _ _)));rintro e w4 ⟨B,rfl,hB,M⟩;have E:Below wr.heap.size wr w4:=((Below.drew (Below.refl _ _)).trans M);obtain⟨af,ag⟩:=Zt E))
    all_goals
     have J:Hid (EA w #[.int .i64 k,.bool b,.int .i64 n,.string t,.slice (some ⟨g,a,none⟩) l.length T,.slice X o.length oc] #[.int .i64 k,.bool b,.int .i64 n,.string t,.slice (some ⟨z,c,none⟩) l.length s,.slice u o.length y] w4):=d.out.step E;clear M E af ag d
     cases B with
     |true=>
      have ae:=qz (HT.out ((hB.1 rfl)));clear hB HT HN;go_wp2;go_roundw
      case rel=>exact⟨q+1,by go_num,by omega,ae,J⟩
      case measure=>simp only[intOf];omega
     |false=>
      have K:Hid (¬(l=l'/\o=o')):=fun h=>HN.out ((fun e=>by have:=hB.2 e;cases this)) h.1;clear hB HT HN;go_wp2;go_ret;exact Cn.no K.out J.out.1
  . obtain rfl:q=l.length:=by omega
    have hE:=C.out;rw[List.take_length,am.out,List.take_length]at hE;have HE:=qz hE;clear hE;clear C;have ay:=HE;clear HE m1 m2;obtain⟨wo,a3⟩: ∃wo:World,wo=wr:=⟨_,rfl⟩;subst a3;have a6:=d.out.2.1.cell 5;have ak:=qz (show o.take 0=o'.take 0 from by simp);have m4:=d.out.2.1.cell 4;go_wp2_with (fail);clear m4;go_loopw [6] (fun i wr=> ∃q:Nat,i=.int .i64 q/\q<=o.length/\Hid (o.take q=o'.take q)/\Hid (EA w #[.int .i64 k,.bool b,.int .i64 n,.string t,.slice Q l.length T,.slice X o.length oc] #[.int .i64 k,.bool b,.int .i64 n,.string t,.slice r l.length s,.slice u o.length y] wr)) (fun i _=>o.length - (intOf i).toNat)
    case atStart=>exact⟨0,rfl,Nat.zero_le _,ak,d⟩
    case round=>
     obtain⟨q,rfl,hq,C,d⟩:=hrel;clear ak;have m1:=d.out.2.1.cell 5;have m2:=d.out.2.2.cell 5;by_cases F:q<o.length
     . have f:q<o'.length:=by have:=an.out;omega
       obtain⟨g,a,rfl,hg,L⟩: ∃g a,X=some ⟨g,a,none⟩/\g<w.heap.size/\An w w.heap.size o g a:=Ho.out.resolve_left (by intro e;rw[e]at F;simp at F);obtain⟨z,c,rfl,ah,D⟩: ∃g a,u=some ⟨g,a,none⟩/\g<w.heap.size/\An w w.heap.size o' g a:=a1.out.resolve_left (by intro e;rw[e]at f;simp at f);obtain⟨⟨key,x⟩,I⟩: ∃v,o[q]? =some v:=⟨_,List.getElem?_eq_getElem F⟩;obtain⟨⟨P,x'⟩,j⟩: ∃v,o'[q]? =some v:=⟨_,List.getElem?_eq_getElem f⟩;have H:=al.out _ (List.mem_of_getElem? I);have aq:=C4 (List.mem_of_getElem? I);have ac:=C4 (List.mem_of_getElem? j);simp only at H aq ac;have A:=d.out.1;have hz:=A.size;have hT:=fun e=>Oh C.out I j e;have hN:=fun e=>Tt I j e;obtain⟨xv,G⟩: ∃xv,x=xv:=⟨_,rfl⟩;obtain⟨ai,p⟩: ∃xv,x'=xv:=⟨_,rfl⟩;obtain⟨k1,b1,n1,t1,l1,o1⟩:=x;obtain⟨k2,b2,n2,t2,l2,o2⟩:=x';obtain⟨R,U,Y,aa,N,c0,c1,c2,c3,c4,c5,c6⟩:=(L.below hg A).seven I;obtain⟨S,V,Z,ab,O,d0,d1,d2,d3,d4,d5,d6⟩:=(D.below ah A).seven j;have hC: ∀W,Below wr.heap.size wr W->Calls Tryz.prog 32 #[.agg #[.int .i64 k1,.bool b1,.int .i64 n1,.string t1,.slice R l1.length U,.slice Y o1.length aa],.agg #[.int .i64 k2,.bool b2,.int .i64 n2,.string t2,.slice S l2.length V,.slice Z o2.length ab]] W (Cn (xv=ai) W):=fun W hW=>by
        rw[<-G,<-p];exact H _ _ _ W (Ab.more (Nat.le_trans hz hW.size) _ _ (N.below (hW.mono hz))) (Ab.more (Nat.le_trans hz hW.size) _ _ (O.below (hW.mono hz))) (by omega) (by omega)
       rw[G,p]at hT hN;have z1:g<wr.heap.size:=by omega
       have z2:z<wr.heap.size:=by omega
       have z3:w.heap.size<wr.heap.size:=d.out.2.1.lt;have z4:w.heap.size+1<wr.heap.size:=d.out.2.2.lt;have z5:(q:Int)<(o.length:Int):=by omega
       obtain⟨HC,HT,HN⟩:=hid3 hC hT hN;clear hC hT hN;clear A N O I j H L D G p C;by_cases hk:key.toList=P.toList
       . have a2:=toList_inj hk;subst a2;have e1:(key.toList != key.toList)=false:=by simp
         clear hk;go_wp2_with (fail)
         go_region_held3 (fun W=>W.cell? ⟨w.heap.size,5,none⟩=some (.slice (some ⟨g,a,none⟩) o.length oc)/\W.cell? ⟨w.heap.size+1,5,none⟩=some (.slice (some ⟨z,c,none⟩) o.length y)/\W.cell? ⟨g,a+q*7,none⟩=some (.string key)/\W.cell? ⟨g,a+q*7+1,none⟩=some (.int .i64 k1)/\W.cell? ⟨g,a+q*7+2,none⟩=some (.bool b1)/\W.cell? ⟨g,a+q*7+3,none⟩=some (.int .i64 n1)/\W.cell? ⟨g,a+q*7+4,none⟩=some (.string t1)/\W.cell? ⟨g,a+q*7+5,none⟩=some (.slice R l1.length U)/\W.cell? ⟨g,a+q*7+6,none⟩=some (.slice Y o1.length aa)/\W.cell? ⟨z,c+q*7,none⟩=some (.string key)/\W.cell? ⟨z,c+q*7+1,none⟩=some (.int .i64 k2)/\W.cell? ⟨z,c+q*7+2,none⟩=some (.bool b2)/\W.cell? ⟨z,c+q*7+3,none⟩=some (.int .i64 n2)/\W.cell? ⟨z,c+q*7+4,none⟩=some (.string t2)/\W.cell? ⟨z,c+q*7+5,none⟩=some (.slice S l2.length V)/\W.cell? ⟨z,c+q*7+6,none⟩=some (.slice Z o2.length ab)) (go_keep) (first|(go_at_call 32;refine(HC.out _ ?_).mono ?_;(exact(Below.drew (Below.refl _ _)));rintro e w4 ⟨B,rfl,hB,M⟩;have E:Below wr.heap.size wr w4:=((Below.drew (Below.refl _ _)).trans M);obtain⟨af,ag⟩:=Zt E))
         all_goals
          have J:Hid (EA w #[.int .i64 k,.bool b,.int .i64 n,.string t,.slice Q l.length T,.slice (some ⟨g,a,none⟩) o.length oc] #[.int .i64 k,.bool b,.int .i64 n,.string t,.slice r l.length s,.slice (some ⟨z,c,none⟩) o.length y] w4):=d.out.step E;clear M E af ag d
          cases B with
          |true=>
           have ae:=qz (HT.out (by rw[hB.1 rfl]));clear hB HT HN;go_wp2;go_roundw
           case rel=>exact⟨q+1,by go_num,by omega,ae,J⟩
           case measure=>simp only[intOf];omega
          |false=>
           have K:Hid (¬(l=l'/\o=o')):=fun h=>HN.out (fun e=>by have:=hB.2 (congrArg Prod.snd e);cases this) h.2;clear hB HT HN;go_wp2;go_ret;exact Cn.no K.out J.out.1
       . have e1:(key.toList != P.toList)=true:=by simpa using hk
         have e2:(key.toList==P.toList)=false:=by simpa using hk
         have K:Hid (¬(l=l'/\o=o')):=fun h=>HN.out (fun e=>hk (by have e5:=congrArg Prod.fst e;simp only at e5;rw[e5])) h.2;have Hk:=qz hk;clear hk;clear HC HT HN;go_wp2_with (fail);go_quiet (fail);go_wp2;go_ret;exact Cn.no K.out (by first|exact Jl d.out.1 _|exact Jl (Jl d.out.1 _) _)
     . obtain rfl:q=o.length:=by omega
       have hE:=C.out;rw[List.take_length,an.out,List.take_length]at hE;have HE:=qz hE;clear hE;clear C;go_wp2;go_ret;exact Cn.yes ⟨ay.out,HE.out⟩ d.out.1
theorem Wk: ∀a,EqC a:=by
 refine Val.ind ?_;intro k b n t l o H I b' cs F w A c r s;obtain⟨C,b',D,E,l',o'⟩:=b';simp only[Ab]at A c;obtain⟨x,y,z,oc,rfl,u,v⟩:=A;obtain⟨g,h,i,j,rfl,d,f⟩:=c;simp only[Val.bulk]at r s;by_cases m:k≠C\/b≠b'\/n≠D\/t≠E\/l.length≠l'.length\/o.length≠o'.length
 . exact Aku k C b b' n D t E x z g i l.length y o.length oc l'.length h o'.length j w _ (by rintro⟨⟩;simp at m) m
 . simp only[not_or,Decidable.not_not]at m;obtain⟨rfl,rfl,rfl,rfl,p,q⟩:=m;have:=Akv k b n t l l' o o' x z g i y oc h j w H I p q u d v f (by omega) (by omega) (by omega) (by omega);rw[p,q]at this;refine(show Eb k b n t x l.length y z o.length oc=_ by rw[p,q])▸this.mono ?_;rintro e w' ⟨B,rfl,G,r⟩;exact⟨B,rfl,by rw[G];simp,r⟩
def Ae8 (w:World) (o:List (ByteArray×Val)) (e:Ending) (w':World):Prop:= ∃V ns,e=.returned V/\w'.ownsRow w.heap.size 111 7 V o.length ns/\Ah w w.heap.size (dO o) ns/\Below w.heap.size w w'
theorem Zh (o:List (ByteArray×Val)) (a:Option Addr) (n c:Nat) (w:World) (h:Ag w w.heap.size (.row 7 (dO o)) [.slice a n c]) (I:o.length<=100000000):
 Calls Tryz.prog 97 #[.slice a n c] w (Ae8 w o):=by
 have y:=h.row_len;rw[Cb]at y;subst y;obtain⟨ns,j,p,v⟩:=h.reads;have z:=fun W=>Lib.run_eql_slice_nil (P:=Tryz.prog) W 40 111 a o.length c 0 0 Tryz.underlying40
 cases a with
 |none=>
  have h0:o.length=0:=by
   rcases Nat.eq_zero_or_pos o.length with h0|h0
   . exact h0
   . obtain⟨F,e,_⟩:=j.2 h0
     cases e
  have u:ns= []:=List.eq_nil_of_length_eq_zero (by rw[j.1,h0]);subst u;obtain⟨A,q⟩:=hid2 h0 p;clear h0 p;clear h j v;go_enter Tryz.func97,Tryz.ntmps97;go_wp2;go_ret;exact⟨.slice none 0 0, [],rfl,by rw[A.out];exact World.ownsRow_nil _ _ _ _,q.out,Below.refl _ _⟩
 |some F=>
  obtain⟨H,x,k,l,m⟩:=info_parts O6;obtain⟨C,r,s,t,E,q,D⟩:=hid7 x k l m j p v;clear x k l m j p v;clear h;go_enter Tryz.func97,Tryz.ntmps97;have i:Hid ((w.alloc (.cells #[] 111)).ownsRow w.heap.size 111 7 (.slice (some ⟨w.heap.size,0,none⟩) 0 0) 0 []):=
   ⟨by simp,.inr ⟨w.heap.size,0, #[],rfl,Nat.le_refl _,heap_alloc_new _ _,Nat.le_refl _,by unfold maxLen;omega,by simp,by simp⟩⟩
  go_wp2_with (at_builtin;refine Fc _ rfl (.tmp 5) (.tmp 6) 40 rfl w.heap.size 111 H (.agg #[.string ⟨#[]⟩,.int .i64 0,.bool false,.int .i64 0,.string ⟨#[]⟩,.slice none 0 0,.slice none 0 0]) 7 104 Tryz.underlying40 C.out r.out s.out t.out rfl (by omega) (.slice (some ⟨w.heap.size,0,none⟩) 0 0) 0 [] rfl i.out w.heap.size _ o.length _ ns rfl ?c0 ?c1 ?c2 ?c3 ?c4 ?_)
  case c0=>exact E.out.alloc (Nat.le_refl _) _
  case c1=>exact D.out
  case c2=>unfold maxLen;omega
  case c3=>omega
  case c4=>simp
  intro v1 w1 d b _;have B:Hid (Below w.heap.size w w1):=((Below.refl _ _).alloc (Nat.le_refl _) _).grown b (by simp) (fun g G=>by simp[Value.ownBlock]at G;omega);have f:=qz d;clear d;clear b;go_wp2;go_ret;exact⟨v1,ns,rfl,by simpa using f.out,q.out,B.out⟩
end Go.Proofs.YtjgfchcldhmjcaaGreatDoor
