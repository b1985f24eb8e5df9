/- Parts: An operation of a region whose guard is against it. Plain over the kit's laws. No condition. -/
import Derived.IntWalk
import Derived.Laws.IdiomStrings
import Derived.Deep.MidRow
import Derived.Test.YtkmcjfkokoidcaaGreatDoorKFa3
set_option maxHeartbeats 20000000
namespace Go.Proofs.YtkmcjfkokoidcaaGreatDoor
open Go.RowKit
def Dp (a b:ByteArray):Bool:=Op.bytesLess a.toList b.toList
def Do (k:ByteArray):List (ByteArray×Val)->Nat
 | []=>0
 |p::r=>if Dp p.1 k then Do k r+1 else 0
def Cb (k:ByteArray) (acc:List (ByteArray×Val)):Bool:=(acc[Do k acc]?).any fun p=>p.1.toList==k.toList
def Afe (m:ByteArray×Val) (acc:List (ByteArray×Val)):List (ByteArray×Val):=acc.take (Do m.1 acc)++([m]++acc.drop (Do m.1 acc))
def D8:List (ByteArray×Val)->List (ByteArray×Val)->Option (List (ByteArray×Val))
 | [],acc=>some acc
 |m::r,acc=>if Cb m.1 acc then none else D8 r (Afe m acc)
theorem Yr (k:ByteArray): ∀acc,Do k acc<=acc.length
 | []=>Nat.zero_le _
 |p::r=>by
  have:=Yr k r;simp only[Do,List.length_cons]
  split<;>omega
theorem Ag9 (m:ByteArray×Val) (acc:List (ByteArray×Val)):Ab (Afe m acc)=Ab acc+Ic m:=by
 have h:=congrArg Ab (List.take_append_drop (Do m.1 acc) acc);rw[Da]at h;simp only[Afe,Da,Ab];omega
theorem Abu: ∀{l:List (ByteArray×Val)} (k:Nat),Ew l->Ew (l.take k)
 | [],k,_=>by simp[Ew]
 |_::_,0,_=>by simp[Ew]
 |x::r,k+1,h=>by
  simp only[List.take_succ_cons,Ew]at h ⊢;exact⟨h.1,Abu k h.2⟩
theorem Abs: ∀{l:List (ByteArray×Val)} (k:Nat),Ew l->Ew (l.drop k)
 | [],k,_=>by simp[Ew]
 |_::_,0,h=>h
 |x::r,k+1,h=>by
  simp only[List.drop_succ_cons,Ew]at h ⊢;exact Abs k h.2
theorem Amp {m:ByteArray×Val} {acc:List (ByteArray×Val)} (h:Ew acc) (hm:J9 m.2):Ew (Afe m acc):=by
 obtain⟨k,v⟩:=m;exact Td (Abu _ h) (Td ⟨hm,trivial⟩ (Abs _ h))
theorem R4: ∀{l acc o:List (ByteArray×Val)},D8 l acc=some o->Ab o=Ab acc+Ab l
 | [],acc,o,h=>by
   simp only[D8,Option.some.injEq]at h;subst h;simp[Ab]
 |m::r,acc,o,h=>by
  simp only[D8]at h;by_cases hh:Cb m.1 acc=true
  . rw[if_pos hh]at h;cases h
  . rw[if_neg hh]at h;rw[R4 h,Ag9];simp only[Ab];omega
theorem Xk: ∀{l acc o:List (ByteArray×Val)},D8 l acc=some o->Ew acc->Ew l->Ew o
 | [],acc,o,h,ha,_=>by
   simp only[D8,Option.some.injEq]at h;exact h▸ha
 |(k,v)::r,acc,o,h,ha,hl=>by
  simp only[D8]at h;by_cases hh:Cb k acc=true
  . rw[if_pos hh]at h;cases h
  . rw[if_neg hh]at h;exact Xk h (Amp ha hl.1) hl.2
theorem Lf: ∀x:List UInt8,Op.bytesLess x x=false
 | []=>rfl
 |a::x=>by simp[Op.bytesLess,Lf x,UInt8.lt_irrefl]
theorem Tl: ∀{x y z:List UInt8},Op.bytesLess x y=true->Op.bytesLess y z=true->Op.bytesLess x z=true
 |_, [],_,h,_=>by cases ‹List UInt8› <;>simp[Op.bytesLess]at h
 |_,_::_, [],_,h=>by simp[Op.bytesLess]at h
 | [],_::_,_::_,_,_=>rfl
 |a::x,b::y,c::z,h,k=>by
  simp only[Op.bytesLess,Bool.or_eq_true,Bool.and_eq_true,decide_eq_true_eq,beq_iff_eq]at h k ⊢;rcases h with h|⟨rfl,h⟩<;>rcases k with k|⟨rfl,k⟩
  . exact .inl (UInt8.lt_trans h k)
  . exact .inl h
  . exact .inl k
  . exact .inr ⟨rfl,Tl h k⟩
theorem Ad1: ∀(x y:List UInt8),Op.bytesLess x y=true\/x=y\/Op.bytesLess y x=true
 | [], []=> .inr (.inl rfl)
 | [],_::_=> .inl rfl
 |_::_, []=> .inr (.inr rfl)
 |a::x,b::y=>by
  simp only[Op.bytesLess,Bool.or_eq_true,Bool.and_eq_true,decide_eq_true_eq,beq_iff_eq];rcases Nat.lt_trichotomy a.toNat b.toNat with h|h|h
  . exact .inl (.inl (UInt8.lt_iff_toNat_lt.2 h))
  . have hab:a=b:=UInt8.toNat_inj.1 h;subst hab;rcases Ad1 x y with h|h|h
    . exact .inl (.inr ⟨rfl,h⟩)
    . exact .inr (.inl (by rw[h]))
    . exact .inr (.inr (.inr ⟨rfl,h⟩))
  . exact .inr (.inr (.inl (UInt8.lt_iff_toNat_lt.2 h)))
theorem Gr {a b:ByteArray} (h:a.toList=b.toList):a=b:=by
 rw[Lib.toList_data,Lib.toList_data]at h;exact ByteArray.ext (Array.ext' h)
theorem Iq (a:ByteArray):Dp a a=false:=Lf _
theorem C0 {a b c:ByteArray} (h:Dp a b=true) (k:Dp b c=true):Dp a c=true:=Tl h k
theorem Ku (a b:ByteArray):Dp a b=true\/a=b\/Dp b a=true:=by
 rcases Ad1 a.toList b.toList with h|h|h
 . exact .inl h
 . exact .inr (.inl (Gr h))
 . exact .inr (.inr h)
theorem Ud {a b:ByteArray} (h:Dp a b=true):Dp b a=false:=by
 cases e:Dp b a with
 |false=>rfl
 |true=>have:=C0 h e;rw[Iq]at this;cases this
def Ay (l:List (ByteArray×Val)):Prop:=l.Pairwise fun a b=>Dp a.1 b.1=true
theorem Wk (k:ByteArray): ∀{acc:List (ByteArray×Val)},Ay acc->Cb k acc=false->(∀p ∈ acc.take (Do k acc),Dp p.1 k=true)/\(∀p ∈ acc.drop (Do k acc),Dp k p.1=true)
 | [],_,_=>by simp
 |q::r,ha,hh=>by
  obtain⟨h1,h2⟩:=List.pairwise_cons.1 ha;by_cases hq:Dp q.1 k=true
  . have hh':Cb k r=false:=by
     unfold Cb at hh ⊢;simpa only[Do,if_pos hq,List.getElem?_cons_succ]using hh
    obtain⟨a,b⟩:=Wk k h2 hh';simp only[Do,if_pos hq,List.take_succ_cons,List.drop_succ_cons];refine⟨fun p hp=> ?_,b⟩;rcases List.mem_cons.1 hp with rfl|hp
    . exact hq
    . exact a p hp
  . simp only[Do,if_neg hq,List.take_zero,List.drop_zero];refine⟨fun p hp=>(by cases hp), ?_⟩;have hne:q.1≠k:=by
     intro e;unfold Cb at hh;simp only[Do,if_neg hq,List.getElem?_cons_zero,Option.any_some]at hh;rw[e]at hh;simp at hh
    have hkq:Dp k q.1=true:=by
     rcases Ku q.1 k with h|h|h
     . exact absurd h hq
     . exact absurd h hne
     . exact h
    intro p hp;rcases List.mem_cons.1 hp with rfl|hp
    . exact hkq
    . exact C0 hkq (h1 p hp)
theorem Alk {m:ByteArray×Val} {acc:List (ByteArray×Val)} (ha:Ay acc) (hh:Cb m.1 acc=false):Ay (Afe m acc):=by
 obtain⟨h1,h2⟩:=Wk m.1 ha hh;have h3:Ay (acc.take (Do m.1 acc)++acc.drop (Do m.1 acc)):=by rw[List.take_append_drop];exact ha
 obtain⟨h4,h5,h6⟩:=List.pairwise_append.1 h3;refine List.pairwise_append.2 ⟨h4,List.pairwise_cons.2 ⟨h2,h5⟩,fun a ha b hb=> ?_⟩;rcases List.mem_cons.1 hb with rfl|hb
 . exact h1 a ha
 . exact h6 a ha b hb
theorem Xu (m:ByteArray×Val) (acc:List (ByteArray×Val)):(Afe m acc).Perm (m::acc):=by
 have h:(acc.take (Do m.1 acc)++([m]++acc.drop (Do m.1 acc))).Perm ([m]++(acc.take (Do m.1 acc)++acc.drop (Do m.1 acc))):=by
  rw[<-List.append_assoc,<-List.append_assoc];exact List.Perm.append_right _ List.perm_append_comm
 rw[List.take_append_drop]at h;exact h
theorem Akd {k:ByteArray} {acc:List (ByteArray×Val)} (h:Cb k acc=true): ∃v,(k,v) ∈ acc:=by
 unfold Cb at h
 cases e:acc[Do k acc]? with
 |none=>rw[e]at h;cases h
 |some p=>
  rw[e]at h;have hk:p.1=k:=Gr (by simpa using h);exact⟨p.2,by rw[<-hk];exact List.mem_of_getElem? e⟩
theorem Nc: ∀{l acc o:List (ByteArray×Val)},D8 l acc=some o->Ay acc->Ay o/\o.Perm (l++acc)
 | [],acc,o,h,ha=>by
   simp only[D8,Option.some.injEq]at h;subst h;exact⟨ha,List.Perm.refl _⟩
 |m::r,acc,o,h,ha=>by
  simp only[D8]at h;by_cases hh:Cb m.1 acc=true
  . rw[if_pos hh]at h;cases h
  . rw[if_neg hh]at h;obtain⟨h1,h2⟩:=Nc h (Alk ha (by simpa using hh));exact⟨h1,h2.trans ((List.Perm.append_left r (Xu m acc)).trans List.perm_middle)⟩
theorem Aar {l:List (ByteArray×Val)} (h:Ay l):(l.map (·.1)).Nodup:=by
 rw[List.Nodup,List.pairwise_map];exact h.imp fun hab e=>by rw[e,Iq]at hab;cases hab
theorem Nb: ∀{l acc:List (ByteArray×Val)},D8 l acc=none-> ¬((l++acc).map (·.1)).Nodup
 | [],acc,h=>by simp[D8]at h
 |m::r,acc,h=>by
  simp only[D8]at h;by_cases hh:Cb m.1 acc=true
  . obtain⟨v,hv⟩:=Akd hh;intro hn;rw[List.cons_append,List.map_cons,List.nodup_cons]at hn;exact hn.1 (List.mem_map.2 ⟨(m.1,v),List.mem_append.2 (.inr hv),rfl⟩)
  . rw[if_neg hh]at h;intro hn;refine Nb h ?_;have hp:((r++Afe m acc).map (·.1)).Perm ((m::r++acc).map (·.1)):=((List.Perm.append_left r (Xu m acc)).trans List.perm_middle).map _;exact hp.nodup_iff.2 hn
theorem Ox: ∀{a b:List (ByteArray×Val)},Ay a->Ay b->a.Perm b->a=b
 | [],b,_,_,h=>(List.Perm.nil_eq h)
 |x::a, [],_,_,h=>by have:=h.length_eq;simp at this
 |x::a,y::b,ha,hb,h=>by
  obtain⟨h1,h2⟩:=List.pairwise_cons.1 ha;obtain⟨h3,h4⟩:=List.pairwise_cons.1 hb;have hxy:x=y:=by
   rcases List.mem_cons.1 (h.mem_iff.1 (List.mem_cons_self (a:=x)))with e|hx
   . exact e
   . rcases List.mem_cons.1 (h.mem_iff.2 (List.mem_cons_self (a:=y)))with e|hy
     . exact e.symm
     . have p:=h3 x hx;have q:=h1 y hy;rw[Ud p]at q
       cases q
  subst hxy;rw[Ox h2 h4 (List.perm_cons _ |>.1 h)]
theorem Vq {l d:List (ByteArray×Val)} (hp:d.Perm l) (ha:Ay d):D8 l []=some d:=by
 cases e:D8 l []with
 |none=>
  exfalso
  refine Nb e ?_;rw[List.append_nil];exact(hp.map (·.1)).nodup_iff.1 (Aar ha)
 |some o=>
  obtain⟨h1,h2⟩:=Nc e List.Pairwise.nil;rw[List.append_nil]at h2;rw[Ox ha h1 (hp.trans h2.symm)]
mutual
def dV:Val->D
 | .mk k b n t l o=> .agg [.leaf (.int .i64 k),.leaf (.bool b),.leaf (.int .i64 n),.leaf (.string t),.row 6 (dL l),.row 7 (dO o)]
def dL:List Val->List D
 | []=> []
 |v::r=>dV v::dL r
def dO:List (ByteArray×Val)->List D
 | []=> []
 |p::r=>dP p::dO r
def dP:ByteArray×Val->D
 |(key,v)=> .agg [.leaf (.string key),dV v]
end
theorem O2: ∀l,dL l=l.map dV
 | []=>rfl
 |v::r=>by simp[dL,O2 r]
theorem Bo: ∀l,dO l=l.map dP
 | []=>rfl
 |v::r=>by simp[dO,Bo r]
theorem Fk (v:Val):(dV v).cells=6:=by
 obtain⟨k,b,n,t,l,o⟩:=v;rfl
theorem C7 (p:ByteArray×Val):(dP p).cells=7:=by
 obtain⟨k,v⟩:=p;simp only[dP,D.cells,L4,Fk]
theorem Aa8 (l:List Val): ∀d ∈ dL l,d.cells=6:=by
 rw[O2];intro d hd;obtain⟨v,_,rfl⟩:=List.mem_map.1 hd;exact Fk v
theorem Es (l:List (ByteArray×Val)): ∀d ∈ dO l,d.cells=7:=by
 rw[Bo];intro d hd;obtain⟨v,_,rfl⟩:=List.mem_map.1 hd;exact C7 v
theorem Qy (l:List Val):(dL l).length=l.length:=by rw[O2,List.length_map]
theorem Av (l:List (ByteArray×Val)):(dO l).length=l.length:=by rw[Bo,List.length_map]
theorem Af.six {w:World} {B:Nat} {a b c d:Value} {e f:D} {cs:List Value}:
 Af w B [.leaf a,.leaf b,.leaf c,.leaf d,e,f] cs ↔ ∃c4 c5,cs= [a,b,c,d]++(c4++c5)/\a.oneCell'=true/\b.oneCell'=true/\c.oneCell'=true/\d.oneCell'=true/\Ag w B e c4/\Ag w B f c5:=by
 constructor
 . rintro⟨_,_,rfl,⟨rfl,ha⟩,_,_,rfl,⟨rfl,hb⟩,_,_,rfl,⟨rfl,hc⟩,_,_,rfl,⟨rfl,hd⟩,c4,_,rfl,h4,c5,_,rfl,h5,rfl⟩;exact⟨c4,c5,by simp,ha,hb,hc,hd,h4,h5⟩
 . rintro⟨c4,c5,rfl,ha,hb,hc,hd,h4,h5⟩;exact⟨[a],_,rfl,⟨rfl,ha⟩, [b],_,rfl,⟨rfl,hb⟩, [c],_,rfl,⟨rfl,hc⟩, [d],_,rfl,⟨rfl,hd⟩,c4,_,rfl,h4,c5, [],by simp,h5,rfl⟩
theorem Af.toL {w:World} {B:Nat} {g:Nat}: ∀{l:List Val},(∀v ∈ l,∀cs,Ag w B (dV v) cs->Ac w B v cs)-> ∀{ns:List Value} {off:Nat},Af w B (dL l) ns->(∀j u,ns[j]? =some u->w.cell? ⟨g,off+j,none⟩=some u)->Ao w B l g off
 | [],_,_,_,_,_=>by simp[Ao]
 |v::r,ih,ns,off,h,hc=>by
  obtain⟨c1,c2,rfl,h1,h2⟩:=h;have hl:c1.length=6:=h1.len.1.trans (Fk v);simp only[Ao];refine⟨⟨c1,ih v (by simp) c1 h1,fun j u hu=>hc j u (by rw[List.getElem?_append_left (List.getElem?_eq_some_iff.1 hu).1];exact hu)⟩,Af.toL (fun x hx=>ih x (by simp[hx])) h2 (fun j u hu=> ?_)⟩;rw[show off+6+j=off+(6+j)from by omega];refine hc (6+j) u ?_;rw[List.getElem?_append_right (by omega),hl,show 6+j - 6=j from by omega];exact hu
theorem Af.toO {w:World} {B:Nat} {g:Nat}: ∀{l:List (ByteArray×Val)},(∀m ∈ l,∀cs,Ag w B (dV m.2) cs->Ac w B m.2 cs)-> ∀{ns:List Value} {off:Nat},Af w B (dO l) ns->(∀j u,ns[j]? =some u->w.cell? ⟨g,off+j,none⟩=some u)->Ap w B l g off
 | [],_,_,_,_,_=>by simp[Ap]
 |(key,v)::r,ih,ns,off,h,hc=>by
  obtain⟨c1,c2,rfl,h1,h2⟩:=h;obtain⟨_,c3,rfl,⟨rfl,_⟩,cv,c4,rfl,h3,rfl⟩:=h1;have hl:cv.length=6:=h3.len.1.trans (Fk v);simp only[Ap,Lv];refine⟨⟨by have:=hc 0 (.string key) rfl;simpa using this,cv,ih (key,v) (by simp) cv h3,fun j u hu=> ?_⟩,Af.toO (fun x hx=>ih x (by simp[hx])) h2 (fun j u hu=> ?_)⟩
  . have h5:=(List.getElem?_eq_some_iff.1 hu).1;rw[show off+1+j=off+(j+1)from by omega];refine hc (j+1) u ?_;simp only[List.append_nil,List.cons_append,List.nil_append,List.getElem?_cons_succ];rw[List.getElem?_append_left h5];exact hu
  . rw[show off+7+j=off+(6+j+1)from by omega];refine hc (6+j+1) u ?_;simp only[List.append_nil,List.cons_append,List.nil_append,List.getElem?_cons_succ];rw[List.getElem?_append_right (by omega),hl,show 6+j - 6=j from by omega];exact hu
theorem Cg {w:World} {B:Nat}: ∀(v:Val) cs,Ag w B (dV v) cs->Ac w B v cs:=by
 refine Val.ind ?_;intro k b n t l o hl ho cs h;simp only[dV,Ag]at h;obtain⟨c4,c5,rfl,_,_,_,_,⟨a4,n4,rfl,_,ns4,h4,i4⟩,⟨a5,n5,rfl,_,ns5,h5,i5⟩⟩:=Af.six.1 h;simp only[Ac];refine⟨a4,n4,a5,n5,by simp[Ei,Qy,Av], ?_, ?_⟩
 . rcases i4 with e|⟨g,off,e,hg,hc⟩
   . refine .inl ?_
     cases l with
     |nil=>rfl
     |cons x r=>simp[dL]at e
   . exact .inr ⟨g,off,e,hg,Af.toL hl h4 hc⟩
 . rcases i5 with e|⟨g,off,e,hg,hc⟩
   . refine .inl ?_
     cases o with
     |nil=>rfl
     |cons x r=>simp[dO]at e
   . exact .inr ⟨g,off,e,hg,Af.toO ho h5 hc⟩
theorem Af.ofL {w:World} {B:Nat} {g:Nat}: ∀{l:List Val},(∀v ∈ l,∀cs,Ac w B v cs->Ag w B (dV v) cs)-> ∀{off:Nat},Ao w B l g off-> ∃ns,Af w B (dL l) ns/\ ∀j u,ns[j]? =some u->w.cell? ⟨g,off+j,none⟩=some u
 | [],_,_,_=>⟨[],rfl,fun j u h=>by simp at h⟩
 |v::r,ih,off,h=>by
  simp only[Ao]at h;obtain⟨⟨cs,h1,hc⟩,h2⟩:=h;have h1':=ih v (by simp) cs h1;have hl:cs.length=6:=h1'.len.1.trans (Fk v);obtain⟨ns,h3,h4⟩:=Af.ofL (fun x hx=>ih x (by simp[hx])) h2;refine⟨cs++ns,⟨cs,ns,rfl,h1',h3⟩,fun j u hu=> ?_⟩;by_cases hj:j<6
  . rw[List.getElem?_append_left (by omega)]at hu;exact hc j u hu
  . rw[List.getElem?_append_right (by omega),hl]at hu;have:=h4 (j - 6) u hu
    rwa [show off+6+(j - 6)=off+j from by omega]at this
theorem Af.ofO {w:World} {B:Nat} {g:Nat}: ∀{l:List (ByteArray×Val)},(∀m ∈ l,∀cs,Ac w B m.2 cs->Ag w B (dV m.2) cs)-> ∀{off:Nat},Ap w B l g off-> ∃ns,Af w B (dO l) ns/\ ∀j u,ns[j]? =some u->w.cell? ⟨g,off+j,none⟩=some u
 | [],_,_,_=>⟨[],rfl,fun j u h=>by simp at h⟩
 |(key,v)::r,ih,off,h=>by
  simp only[Ap,Lv]at h;obtain⟨⟨h0,cs,h1,hc⟩,h2⟩:=h;have h1':=ih (key,v) (by simp) cs h1;have hl:cs.length=6:=h1'.len.1.trans (Fk v);obtain⟨ns,h3,h4⟩:=Af.ofO (fun x hx=>ih x (by simp[hx])) h2;refine⟨(.string key::cs)++ns,⟨.string key::cs,ns,rfl,⟨[.string key],cs,rfl,⟨rfl,rfl⟩,cs, [],by simp,h1',rfl⟩,h3⟩,fun j u hu=> ?_⟩
  match j,hu with
  |0,hu=>
   simp at hu;subst hu;exact h0
  |j+1,hu=>
   simp only[List.cons_append,List.getElem?_cons_succ]at hu;by_cases hj:j<6
   . rw[List.getElem?_append_left (by omega)]at hu;have:=hc j u hu
     rwa [show off+1+j=off+(j+1)from by omega]at this
   . rw[List.getElem?_append_right (by omega),hl]at hu;have:=h4 (j - 6) u hu
     rwa [show off+7+(j - 6)=off+(j+1)from by omega]at this
theorem Ej {w:World} {B:Nat}: ∀(v:Val) cs,Ac w B v cs->Ag w B (dV v) cs:=by
 refine Val.ind ?_;intro k b n t l o hl ho cs h;simp only[Ac]at h;obtain⟨la,lc,oa,oc,rfl,h1,h2⟩:=h;simp only[dV,Ag];refine Af.six.2 ⟨[.slice la l.length lc], [.slice oa o.length oc],rfl,rfl,rfl,rfl,rfl, ?_, ?_⟩
 . rcases h1 with rfl|⟨g,off,e,hg,h1⟩
   . exact⟨la,lc,rfl,Aa8 _, [],rfl,.inl rfl⟩
   . obtain⟨ns,h3,h4⟩:=Af.ofL hl h1;exact⟨la,lc,by rw[Qy],Aa8 _,ns,h3,.inr ⟨g,off,e,hg,h4⟩⟩
 . rcases h2 with rfl|⟨g,off,e,hg,h2⟩
   . exact⟨oa,oc,rfl,Es _, [],rfl,.inl rfl⟩
   . obtain⟨ns,h3,h4⟩:=Af.ofO ho h2;exact⟨oa,oc,by rw[Av],Es _,ns,h3,.inr ⟨g,off,e,hg,h4⟩⟩
theorem F2 {w:World} {g:Nat} {t:TypeId} {cs:Array Value} (h:Aj w g t cs):Bu w (g+1) cs.size (some ⟨g,0,none⟩) 1 cs.toList:=by
 refine⟨by simp,fun _=>⟨_,rfl,by simp,fun j u hu=> ?_⟩⟩;rw[Bn,Nat.zero_add];exact(h.cell j).trans (by rw[<-Array.getElem?_toList];exact hu)
theorem E5.lit {b:Nat} {t:TypeId} {w:World} {d:D} {cs:Array Value} (hb:b<=w.heap.size) (hd:d.cells=cs.size) (h: ∀w'' B,Ag w'' B d cs.toList):
 E5 b t cs.size (w.alloc (.cells cs t)) [d] (.slice (some ⟨w.heap.size,0,none⟩) 1 1):=
 ⟨cs.toList,World.ownsRow_lit w cs 1 hb (by simp[maxLen]) (by simp),fun x hx=>by simp at hx;rw[hx];exact hd,fun w'' _ _=>Af.one (h w'' _)⟩
theorem E5.slice {b:Nat} {t:TypeId} {s:Nat} {wr:World} {l:List D} {V:Value} (h:E5 b t s wr l V): ∃a c,V=.slice a l.length c:=by
 obtain⟨ns,h1,_⟩:=h;rcases h1.2 with⟨rfl,h0⟩|⟨g,cap,cur,rfl,_⟩
 . exact⟨_,_,by rw[h0]⟩
 . exact⟨_,_,rfl⟩
theorem E5.now {b:Nat} {t:TypeId} {s:Nat} {wr:World} {l:List D} {a:Option Addr} {n c:Nat} (h:E5 b t s wr l (.slice a n c)):Ag wr wr.heap.size (.row s l) [.slice a n c]:=by
 obtain⟨a',c',e,_,hf,_⟩:=h.close
 cases e
 exact hf.now
section
variable {P:Program}
theorem Z1 {t ty e:TypeId} {i:TypeInfo} {z:Value} {sz bytes:Nat} (ht:P.underlying t=some (.slice e)) (hi:P.info? e=some i) (hz:i.zero=some z) (hsize:i.size=sz) (hby:i.bytes=bytes) (hzs:z.cells.size=sz) (hsz:0<sz)
 {b:Nat} {wr w:World} {l:List D} {V:Value} (hrow:E5 b e sz wr l V) (hbw:b<=wr.heap.size) (hbe:Below wr.heap.size wr w) {d:D} {cs:List Value} (hd:d.cells=sz) (hx:Ch wr.heap.size w d cs)
 {B:Nat} {A:Option Addr} {c:Nat} (hr:Bu w B sz A 1 cs) (h63:l.length+1<=maxLen) (hbytes:(l.length+1)*bytes<=140737488355328):
 ∃V' w6,(Builtin.append_ #[t,t] ty #[V,.slice A 1 c]).run P w=.ok V' w6/\E5 b e sz w6 (l++ [d]) V'/\w.grownBy w6 V.ownBlock/\(V'.ownBlock=V.ownBlock\/V'.ownBlock=some w.heap.size):=by
 obtain⟨ns,h1,h2,h3⟩:=hrow.below hbe;have h1r:=hrow;obtain⟨ns0,k1,k2,k3⟩:=h1r;have hown:w.ownsRow b e sz V l.length ns0:=by
  refine k1.kept (row:=none) ⟨hbe.os,hbe.tape,hbe.output,hbe.size,fun j hj _=>hbe.block j hj⟩ ?_
  cases hv:V.ownBlock<;>simp
 obtain⟨V',w6,hrun,g1,g2,g3⟩:=Kh (P:=P) w b t ty e i z sz bytes ht hi hz hsize hby hzs hsz V l.length ns0 hown B A 1 c cs hr hx.now.len.2 h63 hbytes (Nat.le_trans hbw hbe.size);refine⟨V',w6,hrun, ?_,g2,g3⟩;refine E5.step hbw k3 k2 hd hx (fun g hg=>(k1.lt g hg).2) g1 ?_ hbe.size g2.size (fun p _ p2=>hbe.cell p2) (fun p _ p2 p3=>World.cell?_of_block (g2.block p.block p2 (fun e=>p3 e.symm)));rcases g3 with g3|g3
 . exact .inl g3
 . exact .inr ⟨_,g3,Nat.le_refl _⟩
theorem Adk {o:Oper} {a:Act} {K:Act->World->Prop} {Q:Exit->Act->World->Prop} (s x:Operand) (t:TypeId) {e:TypeId}
 (ho:o.op=.call {callee:=.builtin .append,args:= #[s,x],argTypes:= #[t,t]}) {i:TypeInfo} {z:Value} {sz bytes:Nat} (ht:P.underlying t=some (.slice e)) (hi:P.info? e=some i) (hz:i.zero=some z) (hsize:i.size=sz) (hby:i.bytes=bytes) (hzs:z.cells.size=sz) (hsz:0<sz)
 {b:Nat} {wr w:World} {l:List D} {V:Value} (hs:a.eval s=V) (hrow:E5 b e sz wr l V) (hbw:b<=wr.heap.size) (hbe:Below wr.heap.size wr w) {d:D} {cs:List Value} (hd:d.cells=sz) (hf:Ch wr.heap.size w d cs)
 {B:Nat} {A:Option Addr} {c:Nat} (hx:a.eval x=.slice A 1 c) (hr:Bu w B sz A 1 cs) (h63:l.length+1<=maxLen) (hbytes:(l.length+1)*bytes<=140737488355328)
 (h: ∀V' w6,E5 b e sz w6 (l++ [d]) V'->w.grownBy w6 V.ownBlock->(V'.ownBlock=V.ownBlock\/V'.ownBlock=some w.heap.size)->K (a.put o.dst V') w6):o.wp P a w K Q:=by
 obtain⟨V',w6,hrun,g1,g2,g3⟩:=Z1 (ty:=o.type) (c:=c) ht hi hz hsize hby hzs hsz hrow hbw hbe hd hf hr h63 hbytes;unfold Oper.wp execOp;simp only[ho,resolve,invoke,builtin,Sem.run_bind,Sem.run_pure,Result.andThen_ok,List.map_toArray,List.map_cons,List.map_nil,hs,hx,hrun];exact h V' w6 g1 g2 g3
theorem Fd {ops:Array Oper} {o:Oper} {a:Act} {K:Act->World->Prop} {Q:Exit->Act->World->Prop} {E:Prop} (hgd:o.guard=none) (s x:Operand) (t:TypeId) {e:TypeId}
 (ho:o.op=.call {callee:=.builtin .append,args:= #[s,x],argTypes:= #[t,t]}) {i:TypeInfo} {z:Value} {sz bytes:Nat} (ht:P.underlying t=some (.slice e)) (hi:P.info? e=some i) (hz:i.zero=some z) (hsize:i.size=sz) (hby:i.bytes=bytes) (hzs:z.cells.size=sz) (hsz:0<sz)
 {b:Nat} {wr w:World} {l:List D} {V:Value} (hs:a.eval s=V) (hrow:E5 b e sz wr l V) (hbw:b<=wr.heap.size) (hbe:Below wr.heap.size wr w) {d:D} {cs:List Value} (hd:d.cells=sz) (hf:Ch wr.heap.size w d cs)
 {B:Nat} {A:Option Addr} {c:Nat} (hx:a.eval x=.slice A 1 c) (hr:Bu w B sz A 1 cs) (h63:l.length+1<=maxLen) (hbytes:(l.length+1)*bytes<=140737488355328)
 (h: ∀V' w6,E5 b e sz w6 (l++ [d]) V'->w.grownBy w6 V.ownBlock->(V'.ownBlock=V.ownBlock\/V'.ownBlock=some w.heap.size)->K (a.put o.dst V') w6):
 if Region.wanted o (yielded ops a.tmps)=true then Oper.wp P o a w K Q else E:=by
 have hw:Region.wanted o (yielded ops a.tmps)=true:=by simp[Region.wanted,hgd]
 rw[if_pos hw];exact Adk s x t ho ht hi hz hsize hby hzs hsz hs hrow hbw hbe hd hf hx hr h63 hbytes h
end
theorem Aa (w:World) (o:Obj):Below w.heap.size w (w.alloc o):=(Below.refl _ _).alloc (Nat.le_refl _) _
theorem Yt {W w1:World} (hb:Below W.heap.size W w1):(∀b o,b<W.heap.size->w1.cell? ⟨b,o,none⟩=W.cell? ⟨b,o,none⟩)/\(∀b o,b<W.heap.size->w1.frozen? ⟨b,o,none⟩=W.frozen? ⟨b,o,none⟩):=
 ⟨fun b o h=>hb.cell (p:=⟨b,o,none⟩) h,fun b o h=>hb.frozen (p:=⟨b,o,none⟩) h⟩
def Fl:ByteArray:=⟨#[]⟩
def F5:Val:=.mk 1 false 0 Fl [] []
def Ib (b:Bool):Val:=.mk 2 b 0 Fl [] []
def Q4 (n:Int):Val:=.mk 3 false n Fl [] []
def Add (l:List UInt8):Val:=.mk 4 false 0 ⟨l.toArray⟩ [] []
def Su (l:List Val):Val:=.mk 5 false 0 Fl l []
def Rb (o:List (ByteArray×Val)):Val:=.mk 6 false 0 Fl [] o
def Rd.map {α β:Type} (g:α->β):Rd α->Rd β
 | .ok a q=> .ok (g a) q
 | .bad e q=> .bad e q
def Dh (s:List UInt8) (p:Nat) (w:List UInt8) (v:Val):Rd Val:=if w.isPrefixOf (s.drop p)=true then .ok v (p+w.length)else .bad 4 p
def G9 (l:List (ByteArray×Val)):List (ByteArray×Val):=(D8 l []).getD []
def Lj (k:ByteArray) (l:List (ByteArray×Val)):Bool:=l.any fun m=>decide (m.1=k)
def F3 (c:UInt8):Bool:=Dy c||c==45||c==34||c==91||c==123||c==110||c==116||c==102
mutual
def Cc:Nat->List UInt8->Nat->Int->Rd Val
 |0,s,p,_=> .bad 4 (Aq s p)
 |f+1,s,p,d=>match s[Aq s p]? with
  |none=> .bad 4 (Aq s p)
  |some c=>
   if F3 c=false then .bad 4 (Aq s p)
   else if 64<d then .bad 5 (Aq s p)
   else if c=91 then Kb f s (Aq s p) d
   else if c=123 then Og f s (Aq s p) d
   else if c=34 then(Eg s (Aq s p)).map Add
   else if c=110 then Dh s (Aq s p) [110,117,108,108] F5
   else if c=116 then Dh s (Aq s p) [116,114,117,101] (Ib true)
   else if c=102 then Dh s (Aq s p) [102,97,108,115,101] (Ib false)
   else(Dg s (Aq s p)).map Q4
def Kb:Nat->List UInt8->Nat->Int->Rd Val
 |0,s,p,_=> .bad 4 (Aq s (p+1))
 |f+1,s,p,d=>if s[Aq s (p+1)]? =some 93 then .ok (Su []) (Aq s (p+1)+1)else D7 f s (Aq s (p+1)) d []
def Og:Nat->List UInt8->Nat->Int->Rd Val
 |0,s,p,_=> .bad 4 (Aq s (p+1))
 |f+1,s,p,d=>if s[Aq s (p+1)]? =some 125 then .ok (Rb []) (Aq s (p+1)+1)else By f s (Aq s (p+1)) d []
def D7:Nat->List UInt8->Nat->Int->List Val->Rd Val
 |0,s,p,_,_=> .bad 4 (Aq s p)
 |f+1,s,p,d,acc=>match Cc f s p (d+1)with
  | .bad e q=> .bad e q
  | .ok v q=>if s[Aq s q]? =some 44 then D7 f s (Aq s q+1) d (acc++ [v])else if s[Aq s q]? =some 93 then .ok (Su (acc++ [v])) (Aq s q+1)else .bad 4 (Aq s q)
def By:Nat->List UInt8->Nat->Int->List (ByteArray×Val)->Rd Val
 |0,s,p,_,_=> .bad 4 (Aq s p)
 |f+1,s,p,d,acc=>match Eg s (Aq s p)with
  | .bad e q=> .bad e q
  | .ok k q=>if Lj ⟨k.toArray⟩ acc=true then .bad 8 (Aq s p)
    else if s[Aq s q]? =some 58 then Fy f s (Aq s q+1) d acc ⟨k.toArray⟩
    else .bad 4 (Aq s q)
def Fy:Nat->List UInt8->Nat->Int->List (ByteArray×Val)->ByteArray->Rd Val
 |0,s,p,_,_,_=> .bad 4 (Aq s p)
 |f+1,s,p,d,acc,k=>match Cc f s p (d+1)with
  | .bad e q=> .bad e q
  | .ok v q=>if s[Aq s q]? =some 44 then By f s (Aq s q+1) d (acc++ [(k,v)])else if s[Aq s q]? =some 125 then .ok (Rb (G9 (acc++ [(k,v)]))) (Aq s q+1)else .bad 4 (Aq s q)
end
def Fe (s:List UInt8):Rd Val:=match Cc (4*s.length+4) s 0 1 with
 | .bad e q=> .bad e q
 | .ok v q=>if Aq s q<s.length then .bad 4 (Aq s q)else .ok v (Aq s q)
theorem Rd.within.from {α:Type} {p p' n:Nat} {r:Rd α} (h:r.within p' n) (hp:p<=p'):r.within p n:=by
 cases r with
 |ok a q=>exact⟨by have:=h.1;omega,h.2⟩
 |bad e q=>exact⟨by have:=h.1;omega,h.2⟩
theorem Rd.within.map {α β:Type} {g:α->β} {p n:Nat} {r:Rd α} (h:r.within p n):(r.map g).within p n:=by
 cases r<;>exact h
theorem Ld {s:List UInt8} {p:Nat} (h:p<s.length) {w:List UInt8} (hw:w≠ []) (v:Val):(Dh s p w v).within p s.length:=by
 unfold Dh
 split
 . rename_i hp;have hp':=(List.isPrefixOf_iff_prefix.1 hp).length_le;rw[List.length_drop]at hp';have:0<w.length:=List.length_pos_iff.2 hw;exact⟨by omega,by omega⟩
 . exact⟨Nat.le_refl _,by omega,by decide,by decide⟩
theorem Er {α:Type} {s:List UInt8} {p:Nat} (h:p<=s.length) (e:Int) (h1:1<=e) (h2:e<=18):(Rd.bad e (Aq s p):Rd α).within p s.length:=⟨C5 s p,Fg h,h1,h2⟩
theorem Iu: ∀(f:Nat),(∀s p d,p<=s.length->(Cc f s p d).within p s.length)/\(∀s p d,p<s.length->(Kb f s p d).within p s.length)/\(∀s p d,p<s.length->(Og f s p d).within p s.length)/\
 (∀s p d acc,p<=s.length->(D7 f s p d acc).within p s.length)/\(∀s p d acc,p<=s.length->(By f s p d acc).within p s.length)/\(∀s p d acc k,p<=s.length->(Fy f s p d acc k).within p s.length):=by
 intro f
 induction f with
 |zero=>
  refine⟨fun s p d h=> ?_,fun s p d h=> ?_,fun s p d h=> ?_,fun s p d acc h=> ?_,fun s p d acc h=> ?_,fun s p d acc k h=> ?_⟩
  . unfold Cc;exact Er h _ (by decide) (by decide)
  . unfold Kb;exact(Er (p:=p+1) h _ (by decide) (by decide)).from (by omega)
  . unfold Og;exact(Er (p:=p+1) h _ (by decide) (by decide)).from (by omega)
  . unfold D7;exact Er h _ (by decide) (by decide)
  . unfold By;exact Er h _ (by decide) (by decide)
  . unfold Fy;exact Er h _ (by decide) (by decide)
 |succ f ih=>
  obtain⟨iv,il,io,ii,im,ik⟩:=ih;refine⟨fun s p d h=> ?_,fun s p d h=> ?_,fun s p d h=> ?_,fun s p d acc h=> ?_,fun s p d acc h=> ?_,fun s p d acc k h=> ?_⟩
  . unfold Cc;have hp:=Fg h;have hg:=C5 s p
    cases hc:s[Aq s p]? with
    |none=>exact Er h _ (by decide) (by decide)
    |some c=>
     have hl:=Cz hc;simp only
     split
     . exact Er h _ (by decide) (by decide)
     split
     . exact Er h _ (by decide) (by decide)
     split
     . exact(il s _ d hl).from hg
     split
     . exact(io s _ d hl).from hg
     split
     . exact((Hu hp).map).from hg
     split
     . exact(Ld hl (by simp) _).from hg
     split
     . exact(Ld hl (by simp) _).from hg
     split
     . exact(Ld hl (by simp) _).from hg
     . exact((Mo hl).map).from hg
  . unfold Kb;have hp:=Fg (s:=s) (p:=p+1) h;have hg:=C5 s (p+1)
    split
    . rename_i hc;exact⟨by omega,by have:=Cz hc;omega⟩
    . exact(ii s _ d [] hp).from (by omega)
  . unfold Og;have hp:=Fg (s:=s) (p:=p+1) h;have hg:=C5 s (p+1)
    split
    . rename_i hc;exact⟨by omega,by have:=Cz hc;omega⟩
    . exact(im s _ d [] hp).from (by omega)
  . unfold D7;have hv:=iv s p (d+1) h
    cases hr:Cc f s p (d+1)with
    |bad e q=>rw[hr]at hv;exact hv
    |ok v q=>
     rw[hr]at hv;obtain⟨h1,h2⟩:=hv;have hp:=Fg h2;have hg:=C5 s q;simp only
     split
     . rename_i hc;exact(ii s _ d _ (Cz hc)).from (by omega)
     split
     . rename_i hc;exact⟨by omega,Cz hc⟩
     . exact(Er h2 _ (by decide) (by decide)).from (by omega)
  . unfold By;have hp0:=Fg h;have hg0:=C5 s p;have hv:=Hu hp0
    cases hr:Eg s (Aq s p)with
    |bad e q=>rw[hr]at hv;exact hv.from hg0
    |ok k q=>
     rw[hr]at hv;obtain⟨h1,h2⟩:=hv;have hp:=Fg h2;have hg:=C5 s q;simp only
     split
     . exact Er h _ (by decide) (by decide)
     split
     . rename_i hc;exact(ik s _ d _ _ (Cz hc)).from (by omega)
     . exact(Er h2 _ (by decide) (by decide)).from (by omega)
  . unfold Fy;have hv:=iv s p (d+1) h
    cases hr:Cc f s p (d+1)with
    |bad e q=>rw[hr]at hv;exact hv
    |ok v q=>
     rw[hr]at hv;obtain⟨h1,h2⟩:=hv;have hp:=Fg h2;have hg:=C5 s q;simp only
     split
     . rename_i hc;exact(im s _ d _ (Cz hc)).from (by omega)
     split
     . rename_i hc;exact⟨by omega,Cz hc⟩
     . exact(Er h2 _ (by decide) (by decide)).from (by omega)
theorem Anc {z:Int} (h0:0<=z) (h1:z<256):((z.toNat.toUInt8).toNat:Int)=z:=by
 have:z.toNat<256:=by omega
 simp[Nat.toUInt8,UInt8.toNat_ofNat',Nat.mod_eq_of_lt this];omega
theorem Oa (w:World) (zs:List Int) (hz: ∀z ∈ zs,0<=z/\z<256) (t:TypeId):
 (convert 131 9 (.slice (some ⟨w.heap.size,0,none⟩) zs.length zs.length)).run Tryz.prog (w.alloc (.cells (zs.map (Value.int .u8)).toArray t))=.ok (.string ⟨(zs.map fun z=>z.toNat.toUInt8).toArray⟩) (w.alloc (.cells (zs.map (Value.int .u8)).toArray t)):=by
 have:=run_convert_bytes_back (P:=Tryz.prog) (w.alloc (.cells (zs.map (Value.int .u8)).toArray t)) 131 9 5 ⟨w.heap.size,0,none⟩ zs.length (zs.map fun z=>z.toNat.toUInt8) Tryz.underlying131 Tryz.underlying5 Tryz.underlying9 (by
  intro j hj;rw[List.length_map]at hj;have hh:(w.alloc (.cells (zs.map (Value.int .u8)).toArray t)).heap[w.heap.size]? =some (.cells (zs.map (Value.int .u8)).toArray t (0,0)):=heap_alloc_new _ _;rw[show(⟨w.heap.size,0,none⟩:Addr).add j=⟨w.heap.size,j,none⟩from by unfold Addr.add;split<;>simp_all];rw[Lib.cell_of_heap hh];simp only[List.getElem?_toArray,List.getElem?_map,List.getElem?_eq_getElem hj,Option.map_some,List.getElem_map];rw[Anc (hz _ (List.getElem_mem hj)).1 (hz _ (List.getElem_mem hj)).2])
 rwa [List.length_map]at this
set_option maxRecDepth 20000 in
theorem Yk (r:Int) (h0:0<=r) (h1:r<=1114111) (hs: ¬(55296<=r/\r<57344)) (w:World):
 Calls Tryz.prog 143 #[.int .i64 r] w fun e w'=>e=.returned (.string ⟨(Lib.encodeRune r).toArray⟩)/\Below w.heap.size w w':=by
 by_cases c1:r<128
 . have e:Lib.encodeRune r= [r].map fun z=>z.toNat.toUInt8:=by unfold Lib.encodeRune;rw[Lib.encodeRuneZ_one h0 (by omega)]
   have hB:=Oa w [r] (by intro z hz;simp at hz;omega) 5;rw[e];simp only[List.map_cons,List.map_nil,List.length_cons,List.length_nil]at hB ⊢;go_enter Tryz.func143,Tryz.ntmps143;go_wp2;go_ret;exact⟨rfl,(Below.refl _ _).alloc (Nat.le_refl _) _⟩
 by_cases c2:r<2048
 . have e:Lib.encodeRune r= [192+r / 64,128+r % 64].map fun z=>z.toNat.toUInt8:=by unfold Lib.encodeRune;rw[Lib.encodeRuneZ_two (by omega) (by omega)]
   have hB:=Oa w [192+r / 64,128+r % 64] (by intro z hz;simp at hz;omega) 5;rw[e];have b1:0<=r / 64:=by omega
   have b2:r / 64<32:=by omega
   have b3:0<=r % 64:=by omega
   have b4:r % 64<64:=by omega
   simp only[List.map_cons,List.map_nil,List.length_cons,List.length_nil]at hB ⊢;obtain⟨z1,hz1⟩: ∃z,192+r / 64=z:=⟨_,rfl⟩;obtain⟨z2,hz2⟩: ∃z,128+r % 64=z:=⟨_,rfl⟩;have d1:0<=z1/\z1<256:=by omega
   have d2:0<=z2/\z2<256:=by omega
   rw[hz1,hz2]at hB ⊢;go_enter Tryz.func143,Tryz.ntmps143;go_wp2;go_ret;exact⟨rfl,(Below.refl _ _).alloc (Nat.le_refl _) _⟩
 by_cases c3:r<65536
 . have e:Lib.encodeRune r= [224+r / 4096,128+r / 64 % 64,128+r % 64].map fun z=>z.toNat.toUInt8:=by unfold Lib.encodeRune;rw[Lib.encodeRuneZ_three (by omega)]
   have hB:=Oa w [224+r / 4096,128+r / 64 % 64,128+r % 64] (by intro z hz;simp at hz;omega) 5;rw[e];have b1:0<=r / 4096:=by omega
   have b2:r / 4096<16:=by omega
   have b3:0<=r % 64:=by omega
   have b4:r % 64<64:=by omega
   have b5:0<=r / 64:=by omega
   have b6:0<=r / 64 % 64:=by omega
   have b7:r / 64 % 64<64:=by omega
   simp only[List.map_cons,List.map_nil,List.length_cons,List.length_nil]at hB ⊢;obtain⟨z1,hz1⟩: ∃z,224+r / 4096=z:=⟨_,rfl⟩;obtain⟨z2,hz2⟩: ∃z,128+r / 64 % 64=z:=⟨_,rfl⟩;obtain⟨z3,hz3⟩: ∃z,128+r % 64=z:=⟨_,rfl⟩;have d1:0<=z1/\z1<256:=by omega
   have d2:0<=z2/\z2<256:=by omega
   have d3:0<=z3/\z3<256:=by omega
   rw[hz1,hz2,hz3]at hB ⊢;go_enter Tryz.func143,Tryz.ntmps143;go_wp2;go_ret;exact⟨rfl,(Below.refl _ _).alloc (Nat.le_refl _) _⟩
 . have e:Lib.encodeRune r= [240+r / 262144,128+r / 4096 % 64,128+r / 64 % 64,128+r % 64].map fun z=>z.toNat.toUInt8:=by unfold Lib.encodeRune;rw[Lib.encodeRuneZ_four (by omega) (by omega)]
   have hB:=Oa w [240+r / 262144,128+r / 4096 % 64,128+r / 64 % 64,128+r % 64] (by intro z hz;simp at hz;omega) 5;rw[e];have b1:0<=r / 262144:=by omega
   have b2:r / 262144<8:=by omega
   have b3:0<=r % 64:=by omega
   have b4:r % 64<64:=by omega
   have b5:0<=r / 64:=by omega
   have b6:0<=r / 64 % 64:=by omega
   have b7:r / 64 % 64<64:=by omega
   have b8:0<=r / 4096:=by omega
   have b9:0<=r / 4096 % 64:=by omega
   have b10:r / 4096 % 64<64:=by omega
   simp only[List.map_cons,List.map_nil,List.length_cons,List.length_nil]at hB ⊢;obtain⟨z0,hz0⟩: ∃z,240+r / 262144=z:=⟨_,rfl⟩;obtain⟨z1,hz1⟩: ∃z,128+r / 4096 % 64=z:=⟨_,rfl⟩;obtain⟨z2,hz2⟩: ∃z,128+r / 64 % 64=z:=⟨_,rfl⟩;obtain⟨z3,hz3⟩: ∃z,128+r % 64=z:=⟨_,rfl⟩;have d0:0<=z0/\z0<256:=by omega
   have d1:0<=z1/\z1<256:=by omega
   have d2:0<=z2/\z2<256:=by omega
   have d3:0<=z3/\z3<256:=by omega
   rw[hz0,hz1,hz2,hz3]at hB ⊢;go_enter Tryz.func143,Tryz.ntmps143;go_wp2;go_ret;exact⟨rfl,(Below.refl _ _).alloc (Nat.le_refl _) _⟩
def Ah (S:Nat->Prop) (w:World) (d:D) (cs:List Value):Prop:=
 ∀w'':World,w.heap.size<=w''.heap.size->(∀p:Addr,S p.block->p.block<w.heap.size->w''.cell? p=w.cell? p)->Ag w'' w.heap.size d cs
def Aw (S:Nat->Prop) (w:World) (l:List D) (cs:List Value):Prop:=
 ∀w'':World,w.heap.size<=w''.heap.size->(∀p:Addr,S p.block->p.block<w.heap.size->w''.cell? p=w.cell? p)->Af w'' w.heap.size l cs
theorem Ah.now {S:Nat->Prop} {w:World} {d:D} {cs:List Value} (h:Ah S w d cs):Ag w w.heap.size d cs:=h w (Nat.le_refl _) fun _ _ _=>rfl
theorem Aw.now {S:Nat->Prop} {w:World} {l:List D} {cs:List Value} (h:Aw S w l cs):Af w w.heap.size l cs:=h w (Nat.le_refl _) fun _ _ _=>rfl
theorem Ah.mono {S T:Nat->Prop} {w:World} {d:D} {cs:List Value} (h:Ah S w d cs) (hST: ∀i,i<w.heap.size->S i->T i):Ah T w d cs:=
 fun w'' h1 h2=>h w'' h1 fun p p1 p2=>h2 p (hST _ p2 p1) p2
theorem Ah.of_old {B:Nat} {w w':World} {d:D} {cs:List Value} (h:Ag w B d cs) (hB:B<=w.heap.size) (hb:Below B w w'):Ah (fun i=>i<B) w' d cs:=fun _ _ h2=>
 (h.keep (fun p hp=>(h2 p hp (Nat.lt_of_lt_of_le hp (Nat.le_trans hB hb.size))).trans (hb.cell hp))).more (Nat.le_trans hB hb.size)
theorem Ah.later {S:Nat->Prop} {w w':World} {d:D} {cs:List Value} (h:Ah S w d cs) (hs:w.heap.size<=w'.heap.size) (hk: ∀p:Addr,S p.block->p.block<w.heap.size->w'.cell? p=w.cell? p):Ah S w' d cs:=fun w'' h1 h2=>
 (h w'' (Nat.le_trans hs h1) fun p p1 p2=>(h2 p p1 (Nat.lt_of_lt_of_le p2 hs)).trans (hk p p1 p2)).more hs
theorem Ah.below {S:Nat->Prop} {w w':World} {d:D} {cs:List Value} (h:Ah S w d cs) (hb:Below w.heap.size w w'):Ah S w' d cs:=h.later hb.size fun _ _ p2=>hb.cell p2
theorem Aw.one {S:Nat->Prop} {w:World} {d:D} {cs:List Value} (h:Ah S w d cs):Aw S w [d] cs:=fun w'' h1 h2=>Af.one (h w'' h1 h2)
theorem Aw.app {S:Nat->Prop} {w:World} {l r:List D} {cs es:List Value} (h:Aw S w l cs) (k:Aw S w r es):Aw S w (l++r) (cs++es):=fun w'' h1 h2=>(h w'' h1 h2).app (k w'' h1 h2)
theorem Ah.blk {S:Nat->Prop} {w:World} {g:Nat} {t:TypeId} {cs:Array Value} {l:List D} {s n c:Nat} (h:Aj w g t cs) (hS:S g) (hs: ∀d ∈ l,d.cells=s) (hA:Aw S w l cs.toList) (hn:n=l.length):Ah S w (.row s l) [.slice (some ⟨g,0,none⟩) n c]:=by
 subst hn;intro w'' h1 h2;exact⟨_,c,rfl,hs,cs.toList,hA w'' h1 h2,.inr ⟨g,0,rfl,h.lt,fun j u hu=>by
  rw[Nat.zero_add,h2 ⟨g,j,none⟩ hS h.lt];exact(h.cell j).trans (by rw[<-Array.getElem?_toList];exact hu)⟩⟩
def At (S0:Nat->Prop) (b:Nat) (t:TypeId) (s:Nat) (wr:World) (l:List D) (V:Value):Prop:=
 ∃ns,wr.ownsRow b t s V l.length ns/\(∀d ∈ l,d.cells=s)/\Aw (fun i=>S0 i/\V.ownBlock≠some i) wr l ns
theorem At.nil (S0:Nat->Prop) (b:Nat) (t:TypeId) (s:Nat) (wr:World):At S0 b t s wr [] (.slice none 0 0):=⟨[],World.ownsRow_nil _ _ _ _,fun d hd=>(by cases hd),fun _ _ _=>rfl⟩
theorem At.base {S0:Nat->Prop} {b:Nat} {t:TypeId} {s:Nat} {wr:World} {l:List D} {V:Value} (h:At S0 b t s wr l V): ∀g,V.ownBlock=some g->b<=g/\g<wr.heap.size:=by
 obtain⟨ns,h1,_⟩:=h;exact h1.lt
theorem At.keep {S0:Nat->Prop} {b:Nat} {t:TypeId} {s:Nat} {wr w':World} {l:List D} {V:Value} (h:At S0 b t s wr l V) (hs:wr.heap.size<=w'.heap.size) (hk: ∀i,i<wr.heap.size->w'.heap[i]? =wr.heap[i]?):At S0 b t s w' l V:=by
 obtain⟨ns,h1,h2,h3⟩:=h;refine⟨ns,⟨h1.1, ?_⟩,h2,fun w'' k1 k2=>Af.more (h3 w'' (by omega) (fun p p1 p2=>(k2 p p1 (by omega)).trans (World.cell?_of_block (hk p.block p2)))) hs⟩;rcases h1.2 with⟨rfl,h0⟩|⟨g,cap,cur,rfl,hbg,hg,h5⟩
 . exact .inl ⟨rfl,h0⟩
 . exact .inr ⟨g,cap,cur,rfl,hbg,(hk g (Array.getElem?_eq_some_iff.1 hg).1).trans hg,h5⟩
theorem At.below {S0:Nat->Prop} {b:Nat} {t:TypeId} {s:Nat} {wr w':World} {l:List D} {V:Value} (h:At S0 b t s wr l V) (hb:Below wr.heap.size wr w'):At S0 b t s w' l V:=h.keep hb.size fun i hi=>hb.block i hi
theorem At.slice {S0:Nat->Prop} {b:Nat} {t:TypeId} {s:Nat} {wr:World} {l:List D} {V:Value} (h:At S0 b t s wr l V): ∃a c,V=.slice a l.length c:=by
 obtain⟨ns,h1,_⟩:=h;rcases h1.2 with⟨rfl,h0⟩|⟨g,cap,cur,rfl,_⟩
 . exact⟨_,_,by rw[h0]⟩
 . exact⟨_,_,rfl⟩
theorem At.slice_n {S0:Nat->Prop} {b:Nat} {t:TypeId} {s n:Nat} {wr:World} {l:List D} {V:Value} (h:At S0 b t s wr l V) (hn:l.length=n): ∃a c,V=.slice a n c:=by
 subst hn;exact h.slice
theorem At.close {S0:Nat->Prop} {b:Nat} {t:TypeId} {s:Nat} {wr:World} {l:List D} {a:Option Addr} {n c:Nat} (h:At S0 b t s wr l (.slice a n c)):Ag wr wr.heap.size (.row s l) [.slice a n c]:=by
 obtain⟨ns,h1,h2,h3⟩:=h;have h1':=h1;rcases h1.2 with⟨e,h0⟩|⟨g,cap,cur,e,hbg,hg,hnc,_⟩
 . cases e
   have hl:l= []:=List.eq_nil_of_length_eq_zero h0;subst hl;exact⟨none,0,rfl,h2, [],rfl,.inl rfl⟩
 . cases e
   have hgl:=(Array.getElem?_eq_some_iff.1 hg).1;refine⟨_,_,rfl,h2,ns,h3.now,.inr ⟨g,0,rfl,hgl,fun j u hu=> ?_⟩⟩;have h5:=h1'.cells (g:=g) rfl j u hu
   rwa [Bn]at h5
theorem At.closeIn {S0:Nat->Prop} {b:Nat} {t:TypeId} {s:Nat} {wr:World} {l:List D} {a:Option Addr} {n c:Nat} (h:At S0 b t s wr l (.slice a n c)):Ah (fun i=>S0 i\/(Value.slice a n c).ownBlock=some i) wr (.row s l) [.slice a n c]:=by
 obtain⟨ns,h1,h2,h3⟩:=h;have h1':=h1;intro w'' k1 k2;have hA:=h3 w'' k1 fun p p1 p2=>k2 p (.inl p1.1) p2;rcases h1.2 with⟨e,h0⟩|⟨g,cap,cur,e,hbg,hg,hnc,_⟩
 . cases e
   have hl:l= []:=List.eq_nil_of_length_eq_zero h0;subst hl;exact⟨none,0,rfl,h2, [],rfl,.inl rfl⟩
 . cases e
   have hgl:=(Array.getElem?_eq_some_iff.1 hg).1;refine⟨_,_,rfl,h2,ns,hA,.inr ⟨g,0,rfl,hgl,fun j u hu=> ?_⟩⟩;have h5:=h1'.cells (g:=g) rfl j u hu;rw[Bn]at h5;exact(k2 ⟨g,0+j,none⟩ (.inr rfl) hgl).trans h5
section
variable {P:Program}
theorem Z3 {t ty e:TypeId} {i:TypeInfo} {z:Value} {sz bytes:Nat} (ht:P.underlying t=some (.slice e)) (hi:P.info? e=some i) (hz:i.zero=some z) (hsize:i.size=sz) (hby:i.bytes=bytes) (hzs:z.cells.size=sz) (hsz:0<sz)
 {S0:Nat->Prop} {b:Nat} {w:World} {l:List D} {V:Value} (hrow:At S0 b e sz w l V) (hbw:b<=w.heap.size) {d:D} {cs:List Value} (hd:d.cells=sz) (hx:Ah (fun i=>S0 i/\V.ownBlock≠some i) w d cs)
 {B:Nat} {A:Option Addr} {c:Nat} (hr:Bu w B sz A 1 cs) (h63:l.length+1<=maxLen) (hbytes:(l.length+1)*bytes<=140737488355328):
 ∃V' w6,(Builtin.append_ #[t,t] ty #[V,.slice A 1 c]).run P w=.ok V' w6/\At S0 b e sz w6 (l++ [d]) V'/\w.grownBy w6 V.ownBlock/\(V'.ownBlock=V.ownBlock\/V'.ownBlock=some w.heap.size):=by
 obtain⟨ns,h1,h2,h3⟩:=hrow;obtain⟨V',w6,hrun,g1,g2,g3⟩:=Kh (P:=P) w b t ty e i z sz bytes ht hi hz hsize hby hzs hsz V l.length ns h1 B A 1 c cs hr hx.now.len.2 h63 hbytes hbw;refine⟨V',w6,hrun,⟨ns++cs,by rw[List.length_append];exact g1, ?_, ?_⟩,g2,g3⟩
 . intro x hx';rcases List.mem_append.1 hx' with hx'|hx'
   . exact h2 x hx'
   . simp only[List.mem_cons,List.not_mem_nil,or_false]at hx';rw[hx'];exact hd
 . have key: ∀p:Addr,V.ownBlock≠some p.block->p.block<w.heap.size->V'.ownBlock≠some p.block:=by
    intro p p1 p2;rcases g3 with e3|e3
    . rw[e3];exact p1
    . rw[e3];intro e4;have:=Option.some.inj e4;omega
   have hag: ∀w'':World,w6.heap.size<=w''.heap.size->(∀p:Addr,S0 p.block/\V'.ownBlock≠some p.block->p.block<w6.heap.size->w''.cell? p=w6.cell? p)-> ∀p:Addr,S0 p.block/\V.ownBlock≠some p.block->p.block<w.heap.size->w''.cell? p=w.cell? p:=by
    intro w'' k1 k2 p p1 p2;rw[k2 p ⟨p1.1,key p p1.2 p2⟩ (Nat.lt_of_lt_of_le p2 g2.size)];exact World.cell?_of_block (g2.block p.block p2 (fun e=>p1.2 e.symm))
   intro w'' k1 k2;have a1:=Af.more (h3 w'' (Nat.le_trans g2.size k1) (hag w'' k1 k2)) g2.size;have a2:=Ag.more (hx w'' (Nat.le_trans g2.size k1) (hag w'' k1 k2)) g2.size;exact a1.snoc a2
theorem Sm {o:Oper} {a:Act} {w:World} {K:Act->World->Prop} {Q:Exit->Act->World->Prop} (s x:Operand) (t:TypeId) {e:TypeId}
 (ho:o.op=.call {callee:=.builtin .append,args:= #[s,x],argTypes:= #[t,t]}) {i:TypeInfo} {z:Value} {sz bytes:Nat} (ht:P.underlying t=some (.slice e)) (hi:P.info? e=some i) (hz:i.zero=some z) (hsize:i.size=sz) (hby:i.bytes=bytes) (hzs:z.cells.size=sz) (hsz:0<sz)
 {S0:Nat->Prop} {b:Nat} {l:List D} {V:Value} (hs:a.eval s=V) (hrow:At S0 b e sz w l V) (hbw:b<=w.heap.size) {d:D} {cs:List Value} (hd:d.cells=sz) (hf:Ah (fun i=>S0 i/\V.ownBlock≠some i) w d cs)
 {B:Nat} {A:Option Addr} {c:Nat} (hx:a.eval x=.slice A 1 c) (hr:Bu w B sz A 1 cs) (h63:l.length+1<=maxLen) (hbytes:(l.length+1)*bytes<=140737488355328)
 (h: ∀V' w6,At S0 b e sz w6 (l++ [d]) V'->w.grownBy w6 V.ownBlock->(V'.ownBlock=V.ownBlock\/V'.ownBlock=some w.heap.size)->K (a.put o.dst V') w6):o.wp P a w K Q:=by
 obtain⟨V',w6,hrun,g1,g2,g3⟩:=Z3 (ty:=o.type) (c:=c) ht hi hz hsize hby hzs hsz hrow hbw hd hf hr h63 hbytes;unfold Oper.wp execOp;simp only[ho,resolve,invoke,builtin,Sem.run_bind,Sem.run_pure,Result.andThen_ok,List.map_toArray,List.map_cons,List.map_nil,hs,hx,hrun];exact h V' w6 g1 g2 g3
theorem Jn {ops:Array Oper} {rest:List Oper} {o:Oper} {a:Act} {w:World} {Q:Exit->Act->World->Prop} (hgd:o.guard=none) (s x:Operand) (t:TypeId) {e:TypeId}
 (ho:o.op=.call {callee:=.builtin .append,args:= #[s,x],argTypes:= #[t,t]}) {i:TypeInfo} {z:Value} {sz bytes:Nat} (ht:P.underlying t=some (.slice e)) (hi:P.info? e=some i) (hz:i.zero=some z) (hsize:i.size=sz) (hby:i.bytes=bytes) (hzs:z.cells.size=sz) (hsz:0<sz)
 {S0:Nat->Prop} {b:Nat} {l:List D} {V:Value} (hs:a.eval s=V) (hrow:At S0 b e sz w l V) (hbw:b<=w.heap.size) {d:D} {cs:List Value} (hd:d.cells=sz) (hf:Ah (fun i=>S0 i/\V.ownBlock≠some i) w d cs)
 {B:Nat} {A:Option Addr} {c:Nat} (hx:a.eval x=.slice A 1 c) (hr:Bu w B sz A 1 cs) (h63:l.length+1<=maxLen) (hbytes:(l.length+1)*bytes<=140737488355328)
 (h: ∀V' w6,At S0 b e sz w6 (l++ [d]) V'->w.grownBy w6 V.ownBlock->(V'.ownBlock=V.ownBlock\/V'.ownBlock=some w.heap.size)->wpList P ops Q rest (a.put o.dst V') w6):wpList P ops Q (o::rest) a w:=
 wpList_plain hgd fun _ hK=>Sm s x t ho ht hi hz hsize hby hzs hsz hs hrow hbw hd hf hx hr h63 hbytes fun V' w6 h2 h3 h4=>hK _ _ (h V' w6 h2 h3 h4)
theorem Gh {ops:Array Oper} {o:Oper} {a:Act} {w:World} {K:Act->World->Prop} {Q:Exit->Act->World->Prop} {E:Prop} (hgd:o.guard=none) (s x:Operand) (t:TypeId) {e:TypeId}
 (ho:o.op=.call {callee:=.builtin .append,args:= #[s,x],argTypes:= #[t,t]}) {i:TypeInfo} {z:Value} {sz bytes:Nat} (ht:P.underlying t=some (.slice e)) (hi:P.info? e=some i) (hz:i.zero=some z) (hsize:i.size=sz) (hby:i.bytes=bytes) (hzs:z.cells.size=sz) (hsz:0<sz)
 {S0:Nat->Prop} {b:Nat} {l:List D} {V:Value} (hs:a.eval s=V) (hrow:At S0 b e sz w l V) (hbw:b<=w.heap.size) {d:D} {cs:List Value} (hd:d.cells=sz) (hf:Ah (fun i=>S0 i/\V.ownBlock≠some i) w d cs)
 {B:Nat} {A:Option Addr} {c:Nat} (hx:a.eval x=.slice A 1 c) (hr:Bu w B sz A 1 cs) (h63:l.length+1<=maxLen) (hbytes:(l.length+1)*bytes<=140737488355328)
 (h: ∀V' w6,At S0 b e sz w6 (l++ [d]) V'->w.grownBy w6 V.ownBlock->(V'.ownBlock=V.ownBlock\/V'.ownBlock=some w.heap.size)->K (a.put o.dst V') w6):
 if Region.wanted o (yielded ops a.tmps)=true then Oper.wp P o a w K Q else E:=by
 have hw:Region.wanted o (yielded ops a.tmps)=true:=by simp[Region.wanted,hgd]
 rw[if_pos hw];exact Sm s x t ho ht hi hz hsize hby hzs hsz hs hrow hbw hd hf hx hr h63 hbytes h
end
section
variable {P:Program}
theorem Gf (b:Nat): ∀(vs:List Value) (o:Nat) (w:World),w.setCells b o vs=Ak w b o vs
 | [],_,_=>rfl
 |_::r,o,_=>by rw[World.setCells,Ak,Gf b r]
end
section
variable {P:Program} {md:Region.Mode} {ops:Array Oper} {Q:Exit->Act->World->Prop} {S:World->Prop}
theorem tkN (i:Nat) {oi:Oper} {fuel:Nat} {listed:Array Bool} {a a':Act} {w:World} (hS:S w) (h:wpAnyH P md ops Q S fuel (listed.setIfInBounds i true) a' w)
 (hi:ops[i]? =some oi:=by rfl) (hs:Region.noSelect ops=true:=by kernel_rfl) (hf:Region.free md ops listed i=true:=by kernel_rfl) (hr:(Region.ready md ops listed).contains i=true:=by kernel_rfl)
 (hQ: ∀c a w,Q (.panic c) (a.put oi.dst undef) w->Q (.panic c) a w:=by exact fun _ _ _ h=>h) (hw:Region.wanted oi (yielded ops a.tmps)=false:=by kernel_rfl)
 (hn:a.put oi.dst undef=a':=by((try simp only[Act.put,tk1,tk2,tk3,tk4,tk5,tk6]);exact rfl)):wpAnyH P md ops Q S (fuel+1) listed a w:=
 wpAnyH_take hi hs hf hr hQ (Or.inr ⟨hw,rfl⟩) hS (hn▸h)
end
end Go.Proofs.YtkmcjfkokoidcaaGreatDoor
