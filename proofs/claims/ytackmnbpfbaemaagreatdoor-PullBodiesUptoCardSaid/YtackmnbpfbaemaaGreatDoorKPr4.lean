/- Parts: Sealed bytes, spoilt once, are none; what is sealed. Plain. No condition. -/
import Derived.Laws.IdiomStrings
import Derived.Test.YtackmnbpfbaemaaGreatDoorKPr2
import Derived.Test.YtackmnbpfbaemaaGreatDoorKPr3
set_option maxHeartbeats 20000000
namespace Go.Proofs.YtackmnbpfbaemaaGreatDoor
open Go.RowKit
mutual
def dV:Val->D
 | .mk k b n t l o=> .agg [.leaf (.int .i64 k),.leaf (.bool b),.leaf (.int .i64 n),.leaf (.string t),.row 6 (dL l),.row 7 (dO o)]
def dL:List Val->List D
 | []=> []
 |v::r=>dV v::dL r
def dO:List (ByteArray×Val)->List D
 | []=> []
 |p::r=>dP p::dO r
def dP:ByteArray×Val->D
 |(key,v)=> .agg [.leaf (.string key),dV v]
end
theorem Gz: ∀l,dL l=l.map dV
 | []=>rfl
 |v::r=>by simp[dL,Gz r]
theorem Jd: ∀l,dO l=l.map dP
 | []=>rfl
 |v::r=>by simp[dO,Jd r]
theorem Eh (v:Val):(dV v).cells=6:=by
 obtain⟨k,b,n,t,l,o⟩:=v;rfl
theorem Fc (p:ByteArray×Val):(dP p).cells=7:=by
 obtain⟨k,v⟩:=p;simp only[dP,D.cells,K0,Eh]
theorem Z6 (l:List Val): ∀d ∈ dL l,d.cells=6:=by
 rw[Gz];intro d hd;obtain⟨v,_,rfl⟩:=List.mem_map.1 hd;exact Eh v
theorem Mo (l:List (ByteArray×Val)): ∀d ∈ dO l,d.cells=7:=by
 rw[Jd];intro d hd;obtain⟨v,_,rfl⟩:=List.mem_map.1 hd;exact Fc v
theorem Lz (l:List Val):(dL l).length=l.length:=by rw[Gz,List.length_map]
theorem Ig (l:List (ByteArray×Val)):(dO l).length=l.length:=by rw[Jd,List.length_map]
theorem Ag.six {w:World} {B:Nat} {a b c d:Value} {e f:D} {cs:List Value}:
 Ag w B [.leaf a,.leaf b,.leaf c,.leaf d,e,f] cs ↔ ∃c4 c5,cs= [a,b,c,d]++(c4++c5)/\a.oneCell'=true/\b.oneCell'=true/\c.oneCell'=true/\d.oneCell'=true/\Ae w B e c4/\Ae w B f c5:=by
 constructor
 . rintro⟨_,_,rfl,⟨rfl,ha⟩,_,_,rfl,⟨rfl,hb⟩,_,_,rfl,⟨rfl,hc⟩,_,_,rfl,⟨rfl,hd⟩,c4,_,rfl,h4,c5,_,rfl,h5,rfl⟩;exact⟨c4,c5,by simp,ha,hb,hc,hd,h4,h5⟩
 . rintro⟨c4,c5,rfl,ha,hb,hc,hd,h4,h5⟩;exact⟨[a],_,rfl,⟨rfl,ha⟩, [b],_,rfl,⟨rfl,hb⟩, [c],_,rfl,⟨rfl,hc⟩, [d],_,rfl,⟨rfl,hd⟩,c4,_,rfl,h4,c5, [],by simp,h5,rfl⟩
theorem Ag.toL {w:World} {B:Nat} {g:Nat}: ∀{l:List Val},(∀v ∈ l,∀cs,Ae w B (dV v) cs->Ac w B v cs)-> ∀{ns:List Value} {off:Nat},Ag w B (dL l) ns->(∀j u,ns[j]? =some u->w.cell? ⟨g,off+j,none⟩=some u)->Az w B l g off
 | [],_,_,_,_,_=>by simp[Az]
 |v::r,ih,ns,off,h,hc=>by
  obtain⟨c1,c2,rfl,h1,h2⟩:=h;have hl:c1.length=6:=h1.len.1.trans (Eh v);simp only[Az];refine⟨⟨c1,ih v (by simp) c1 h1,fun j u hu=>hc j u (by rw[List.getElem?_append_left (List.getElem?_eq_some_iff.1 hu).1];exact hu)⟩,Ag.toL (fun x hx=>ih x (by simp[hx])) h2 (fun j u hu=> ?_)⟩;rw[show off+6+j=off+(6+j)from by omega];refine hc (6+j) u ?_;rw[List.getElem?_append_right (by omega),hl,show 6+j - 6=j from by omega];exact hu
theorem Ag.toO {w:World} {B:Nat} {g:Nat}: ∀{l:List (ByteArray×Val)},(∀m ∈ l,∀cs,Ae w B (dV m.2) cs->Ac w B m.2 cs)-> ∀{ns:List Value} {off:Nat},Ag w B (dO l) ns->(∀j u,ns[j]? =some u->w.cell? ⟨g,off+j,none⟩=some u)->Au w B l g off
 | [],_,_,_,_,_=>by simp[Au]
 |(key,v)::r,ih,ns,off,h,hc=>by
  obtain⟨c1,c2,rfl,h1,h2⟩:=h;obtain⟨_,c3,rfl,⟨rfl,_⟩,cv,c4,rfl,h3,rfl⟩:=h1;have hl:cv.length=6:=h3.len.1.trans (Eh v);simp only[Au,N7];refine⟨⟨by have:=hc 0 (.string key) rfl;simpa using this,cv,ih (key,v) (by simp) cv h3,fun j u hu=> ?_⟩,Ag.toO (fun x hx=>ih x (by simp[hx])) h2 (fun j u hu=> ?_)⟩
  . have h5:=(List.getElem?_eq_some_iff.1 hu).1;rw[show off+1+j=off+(j+1)from by omega];refine hc (j+1) u ?_;simp only[List.append_nil,List.cons_append,List.nil_append,List.getElem?_cons_succ];rw[List.getElem?_append_left h5];exact hu
  . rw[show off+7+j=off+(6+j+1)from by omega];refine hc (6+j+1) u ?_;simp only[List.append_nil,List.cons_append,List.nil_append,List.getElem?_cons_succ];rw[List.getElem?_append_right (by omega),hl,show 6+j - 6=j from by omega];exact hu
theorem Bv {w:World} {B:Nat}: ∀(v:Val) cs,Ae w B (dV v) cs->Ac w B v cs:=by
 refine Val.ind ?_;intro k b n t l o hl ho cs h;simp only[dV,Ae]at h;obtain⟨c4,c5,rfl,_,_,_,_,⟨a4,n4,rfl,_,ns4,h4,i4⟩,⟨a5,n5,rfl,_,ns5,h5,i5⟩⟩:=Ag.six.1 h;simp only[Ac];refine⟨a4,n4,a5,n5,by simp[Eo,Lz,Ig], ?_, ?_⟩
 . rcases i4 with e|⟨g,off,e,hg,hc⟩
   . refine .inl ?_
     cases l with
     |nil=>rfl
     |cons x r=>simp[dL]at e
   . exact .inr ⟨g,off,e,hg,Ag.toL hl h4 hc⟩
 . rcases i5 with e|⟨g,off,e,hg,hc⟩
   . refine .inl ?_
     cases o with
     |nil=>rfl
     |cons x r=>simp[dO]at e
   . exact .inr ⟨g,off,e,hg,Ag.toO ho h5 hc⟩
theorem Ag.ofL {w:World} {B:Nat} {g:Nat}: ∀{l:List Val},(∀v ∈ l,∀cs,Ac w B v cs->Ae w B (dV v) cs)-> ∀{off:Nat},Az w B l g off-> ∃ns,Ag w B (dL l) ns/\ ∀j u,ns[j]? =some u->w.cell? ⟨g,off+j,none⟩=some u
 | [],_,_,_=>⟨[],rfl,fun j u h=>by simp at h⟩
 |v::r,ih,off,h=>by
  simp only[Az]at h;obtain⟨⟨cs,h1,hc⟩,h2⟩:=h;have h1':=ih v (by simp) cs h1;have hl:cs.length=6:=h1'.len.1.trans (Eh v);obtain⟨ns,h3,h4⟩:=Ag.ofL (fun x hx=>ih x (by simp[hx])) h2;refine⟨cs++ns,⟨cs,ns,rfl,h1',h3⟩,fun j u hu=> ?_⟩;by_cases hj:j<6
  . rw[List.getElem?_append_left (by omega)]at hu;exact hc j u hu
  . rw[List.getElem?_append_right (by omega),hl]at hu;have:=h4 (j - 6) u hu
    rwa [show off+6+(j - 6)=off+j from by omega]at this
theorem Ag.ofO {w:World} {B:Nat} {g:Nat}: ∀{l:List (ByteArray×Val)},(∀m ∈ l,∀cs,Ac w B m.2 cs->Ae w B (dV m.2) cs)-> ∀{off:Nat},Au w B l g off-> ∃ns,Ag w B (dO l) ns/\ ∀j u,ns[j]? =some u->w.cell? ⟨g,off+j,none⟩=some u
 | [],_,_,_=>⟨[],rfl,fun j u h=>by simp at h⟩
 |(key,v)::r,ih,off,h=>by
  simp only[Au,N7]at h;obtain⟨⟨h0,cs,h1,hc⟩,h2⟩:=h;have h1':=ih (key,v) (by simp) cs h1;have hl:cs.length=6:=h1'.len.1.trans (Eh v);obtain⟨ns,h3,h4⟩:=Ag.ofO (fun x hx=>ih x (by simp[hx])) h2;refine⟨(.string key::cs)++ns,⟨.string key::cs,ns,rfl,⟨[.string key],cs,rfl,⟨rfl,rfl⟩,cs, [],by simp,h1',rfl⟩,h3⟩,fun j u hu=> ?_⟩
  match j,hu with
  |0,hu=>
   simp at hu;subst hu;exact h0
  |j+1,hu=>
   simp only[List.cons_append,List.getElem?_cons_succ]at hu;by_cases hj:j<6
   . rw[List.getElem?_append_left (by omega)]at hu;have:=hc j u hu
     rwa [show off+1+j=off+(j+1)from by omega]at this
   . rw[List.getElem?_append_right (by omega),hl]at hu;have:=h4 (j - 6) u hu
     rwa [show off+7+(j - 6)=off+(j+1)from by omega]at this
theorem Ik {w:World} {B:Nat}: ∀(v:Val) cs,Ac w B v cs->Ae w B (dV v) cs:=by
 refine Val.ind ?_;intro k b n t l o hl ho cs h;simp only[Ac]at h;obtain⟨la,lc,oa,oc,rfl,h1,h2⟩:=h;simp only[dV,Ae];refine Ag.six.2 ⟨[.slice la l.length lc], [.slice oa o.length oc],rfl,rfl,rfl,rfl,rfl, ?_, ?_⟩
 . rcases h1 with rfl|⟨g,off,e,hg,h1⟩
   . exact⟨la,lc,rfl,Z6 _, [],rfl,.inl rfl⟩
   . obtain⟨ns,h3,h4⟩:=Ag.ofL hl h1;exact⟨la,lc,by rw[Lz],Z6 _,ns,h3,.inr ⟨g,off,e,hg,h4⟩⟩
 . rcases h2 with rfl|⟨g,off,e,hg,h2⟩
   . exact⟨oa,oc,rfl,Mo _, [],rfl,.inl rfl⟩
   . obtain⟨ns,h3,h4⟩:=Ag.ofO ho h2;exact⟨oa,oc,by rw[Ig],Mo _,ns,h3,.inr ⟨g,off,e,hg,h4⟩⟩
theorem Aa (w:World) (o:Obj):Below w.heap.size w (w.alloc o):=(Below.refl _ _).alloc (Nat.le_refl _) _
theorem Air (n:Nat):((n:Int)==0)=decide (n=0):=by rw[Bool.eq_iff_iff];simp
theorem Ak9 (a b:Int):(a != b)=decide (a≠b):=by rw[Bool.eq_iff_iff];simp
theorem Ak8 (a b:Int):(a==b)=decide (a=b):=by rw[Bool.eq_iff_iff];simp
theorem Dy {W w1:World} (hb:Below W.heap.size W w1):(∀b o,b<W.heap.size->w1.cell? ⟨b,o,none⟩=W.cell? ⟨b,o,none⟩)/\(∀b o,b<W.heap.size->w1.frozen? ⟨b,o,none⟩=W.frozen? ⟨b,o,none⟩):=
 ⟨fun b o h=>hb.cell (p:=⟨b,o,none⟩) h,fun b o h=>hb.frozen (p:=⟨b,o,none⟩) h⟩
theorem Fa.app {w:World} {B:Nat}: ∀{a b:List (ByteArray×Val)} {ns ms:List Value},Fa w B a ns->Fa w B b ms->Fa w B (a++b) (ns++ms)
 | [],b,ns,ms,h,h'=>by
   have:ns= []:=h;subst this;exact h'
 |(k,v)::r,b,ns,ms,⟨cs,rest,e,h1,h2⟩,h'=>by
  subst e;exact⟨cs,rest++ms,by simp,h1,Fa.app h2 h'⟩
theorem Fa.len {w:World} {B:Nat}: ∀{l:List (ByteArray×Val)} {ns:List Value},Fa w B l ns->ns.length=l.length*7/\ ∀u ∈ ns,u.oneCell'=true
 | [],ns,h=>by
   have:ns= []:=h;subst this;exact⟨rfl,fun u hu=>by cases hu⟩
 |(k,v)::r,ns,⟨cs,rest,e,h1,h2⟩=>by
  subst e;obtain⟨a1,a2⟩:=h1.len;obtain⟨b1,b2⟩:=Fa.len h2;refine⟨by rw[List.length_cons,List.length_append,a1,b1,List.length_cons];omega,fun u hu=> ?_⟩;rcases List.mem_cons.1 hu with rfl|hu
  . rfl
  rcases List.mem_append.1 hu with hu|hu
  . exact a2 u hu
  . exact b2 u hu
theorem Fa.split {w:World} {B:Nat}: ∀{l:List (ByteArray×Val)} {ns:List Value} (k:Nat),Fa w B l ns->Fa w B (l.take k) (ns.take (k*7))/\Fa w B (l.drop k) (ns.drop (k*7))
 | [],ns,k,h=>by
   have:ns= []:=h;subst this;simp[Fa]
 |(key,v)::r,ns,0,h=>by
  simp only[List.take_zero,Nat.zero_mul,List.drop_zero];exact⟨rfl,h⟩
 |(key,v)::r,ns,k+1,⟨cs,rest,e,h1,h2⟩=>by
  subst e;obtain⟨a,b⟩:=Fa.split k h2;have hl:=h1.len.1;have e1:(Value.string key::(cs++rest)).take ((k+1)*7)=.string key::(cs++rest.take (k*7)):=by
   rw[show(k+1)*7=(6+k*7)+1 from by omega,List.take_succ_cons,List.take_append,hl,List.take_of_length_le (by omega),show 6+k*7 - 6=k*7 from by omega]
  have e2:(Value.string key::(cs++rest)).drop ((k+1)*7)=rest.drop (k*7):=by
   rw[show(k+1)*7=(6+k*7)+1 from by omega,List.drop_succ_cons,List.drop_append,hl,List.drop_eq_nil_of_le (by omega),show 6+k*7 - 6=k*7 from by omega,List.nil_append]
  rw[e1,e2];exact⟨⟨cs,rest.take (k*7),rfl,h1,a⟩,b⟩
theorem Nc: ∀(a b:List (ByteArray×Val)),Al (a++b)=Al a+Al b
 | [],b=>by simp[Al]
 |x::r,b=>by simp only[List.cons_append,Al,Nc r b];omega
theorem Tf: ∀{a b:List (ByteArray×Val)},Jj a->Jj b->Jj (a++b)
 | [],_,_,h=>h
 |x::r,b,h,h'=>by
  simp only[List.cons_append,Jj]at h ⊢;exact⟨h.1,Tf h.2 h'⟩
def Md (a b:ByteArray):Bool:=Op.bytesLess a.toList b.toList
def O9 (k:ByteArray):List (ByteArray×Val)->Nat
 | []=>0
 |p::r=>if Md p.1 k then O9 k r+1 else 0
def Mg (k:ByteArray) (acc:List (ByteArray×Val)):Bool:=(acc[O9 k acc]?).any fun p=>p.1.toList==k.toList
def Kb (m:ByteArray×Val) (acc:List (ByteArray×Val)):List (ByteArray×Val):=acc.take (O9 m.1 acc)++([m]++acc.drop (O9 m.1 acc))
def Bg:List (ByteArray×Val)->List (ByteArray×Val)->Option (List (ByteArray×Val))
 | [],acc=>some acc
 |m::r,acc=>if Mg m.1 acc then none else Bg r (Kb m acc)
theorem Acq (k:ByteArray): ∀acc,O9 k acc<=acc.length
 | []=>Nat.zero_le _
 |p::r=>by
  have:=Acq k r;simp only[O9,List.length_cons]
  split<;>omega
theorem Aiq (k:ByteArray): ∀{acc:List (ByteArray×Val)} {j:Nat} {p:ByteArray×Val},j<O9 k acc->acc[j]? =some p->Md p.1 k=true
 | [],j,p,h,hp=>by simp at hp
 |q::r,0,p,h,hp=>by
  simp only[O9]at h;simp only[List.getElem?_cons_zero,Option.some.injEq]at hp;subst hp;by_cases hq:Md q.1 k=true
  . exact hq
  . rw[if_neg hq]at h;omega
 |q::r,j+1,p,h,hp=>by
  simp only[O9]at h;by_cases hq:Md q.1 k=true
  . rw[if_pos hq]at h;exact Aiq k (acc:=r) (j:=j) (by omega) (by simpa using hp)
  . rw[if_neg hq]at h;omega
theorem Aip (k:ByteArray): ∀{acc:List (ByteArray×Val)} {p:ByteArray×Val},acc[O9 k acc]? =some p->Md p.1 k=false
 | [],p,hp=>by simp at hp
 |q::r,p,hp=>by
  by_cases hq:Md q.1 k=true
  . simp only[O9,if_pos hq,List.getElem?_cons_succ]at hp;exact Aip k hp
  . simp only[O9,if_neg hq,List.getElem?_cons_zero,Option.some.injEq]at hp;subst hp;simpa using hq
theorem Aki (m:ByteArray×Val) (acc:List (ByteArray×Val)):(Kb m acc).length=acc.length+1:=by
 have:=Acq m.1 acc;simp only[Kb,List.length_append,List.length_take,List.length_drop,List.length_cons,List.length_nil];omega
theorem Wd (m:ByteArray×Val) (acc:List (ByteArray×Val)):Al (Kb m acc)=Al acc+Ec m:=by
 have h:=congrArg Al (List.take_append_drop (O9 m.1 acc) acc);rw[Nc]at h;simp only[Kb,Nc,Al];omega
theorem Aap: ∀{l:List (ByteArray×Val)} (k:Nat),Jj l->Jj (l.take k)
 | [],k,_=>by simp[Jj]
 |_::_,0,_=>by simp[Jj]
 |x::r,k+1,h=>by
  simp only[List.take_succ_cons,Jj]at h ⊢;exact⟨h.1,Aap k h.2⟩
theorem Aao: ∀{l:List (ByteArray×Val)} (k:Nat),Jj l->Jj (l.drop k)
 | [],k,_=>by simp[Jj]
 |_::_,0,h=>h
 |x::r,k+1,h=>by
  simp only[List.drop_succ_cons,Jj]at h ⊢;exact Aao k h.2
theorem Aln {m:ByteArray×Val} {acc:List (ByteArray×Val)} (h:Jj acc) (hm:Ga m.2):Jj (Kb m acc):=by
 obtain⟨k,v⟩:=m;exact Tf (Aap _ h) (Tf ⟨hm,trivial⟩ (Aao _ h))
theorem Ku: ∀{l acc o:List (ByteArray×Val)},Bg l acc=some o->Al o=Al acc+Al l
 | [],acc,o,h=>by
   simp only[Bg,Option.some.injEq]at h;subst h;simp[Al]
 |m::r,acc,o,h=>by
  simp only[Bg]at h;by_cases hh:Mg m.1 acc=true
  . rw[if_pos hh]at h;cases h
  . rw[if_neg hh]at h;rw[Ku h,Wd];simp only[Al];omega
theorem W4: ∀{l acc o:List (ByteArray×Val)},Bg l acc=some o->Jj acc->Jj l->Jj o
 | [],acc,o,h,ha,_=>by
   simp only[Bg,Option.some.injEq]at h;exact h▸ha
 |(k,v)::r,acc,o,h,ha,hl=>by
  simp only[Bg]at h;by_cases hh:Mg k acc=true
  . rw[if_pos hh]at h;cases h
  . rw[if_neg hh]at h;exact W4 h (Aln ha hl.1) hl.2
theorem J0: ∀x:List UInt8,Op.bytesLess x x=false
 | []=>rfl
 |a::x=>by simp[Op.bytesLess,J0 x,UInt8.lt_irrefl]
theorem Pk: ∀{x y z:List UInt8},Op.bytesLess x y=true->Op.bytesLess y z=true->Op.bytesLess x z=true
 |_, [],_,h,_=>by cases ‹List UInt8› <;>simp[Op.bytesLess]at h
 |_,_::_, [],_,h=>by simp[Op.bytesLess]at h
 | [],_::_,_::_,_,_=>rfl
 |a::x,b::y,c::z,h,k=>by
  simp only[Op.bytesLess,Bool.or_eq_true,Bool.and_eq_true,decide_eq_true_eq,beq_iff_eq]at h k ⊢;rcases h with h|⟨rfl,h⟩<;>rcases k with k|⟨rfl,k⟩
  . exact .inl (UInt8.lt_trans h k)
  . exact .inl h
  . exact .inl k
  . exact .inr ⟨rfl,Pk h k⟩
theorem Acy: ∀(x y:List UInt8),Op.bytesLess x y=true\/x=y\/Op.bytesLess y x=true
 | [], []=> .inr (.inl rfl)
 | [],_::_=> .inl rfl
 |_::_, []=> .inr (.inr rfl)
 |a::x,b::y=>by
  simp only[Op.bytesLess,Bool.or_eq_true,Bool.and_eq_true,decide_eq_true_eq,beq_iff_eq];rcases Nat.lt_trichotomy a.toNat b.toNat with h|h|h
  . exact .inl (.inl (UInt8.lt_iff_toNat_lt.2 h))
  . have hab:a=b:=UInt8.toNat_inj.1 h;subst hab;rcases Acy x y with h|h|h
    . exact .inl (.inr ⟨rfl,h⟩)
    . exact .inr (.inl (by rw[h]))
    . exact .inr (.inr (.inr ⟨rfl,h⟩))
  . exact .inr (.inr (.inl (UInt8.lt_iff_toNat_lt.2 h)))
theorem toList_inj {a b:ByteArray} (h:a.toList=b.toList):a=b:=by
 rw[Lib.toList_data,Lib.toList_data]at h;exact ByteArray.ext (Array.ext' h)
theorem Ff (a:ByteArray):Md a a=false:=J0 _
theorem Fp {a b c:ByteArray} (h:Md a b=true) (k:Md b c=true):Md a c=true:=Pk h k
theorem Nj (a b:ByteArray):Md a b=true\/a=b\/Md b a=true:=by
 rcases Acy a.toList b.toList with h|h|h
 . exact .inl h
 . exact .inr (.inl (toList_inj h))
 . exact .inr (.inr h)
theorem Aav {a b:ByteArray} (h:Md a b=true):Md b a=false:=by
 cases e:Md b a with
 |false=>rfl
 |true=>have:=Fp h e;rw[Ff]at this;cases this
def Ej (l:List (ByteArray×Val)):Prop:=l.Pairwise fun a b=>Md a.1 b.1=true
theorem V4 (k:ByteArray): ∀{acc:List (ByteArray×Val)},Ej acc->Mg k acc=false->(∀p ∈ acc.take (O9 k acc),Md p.1 k=true)/\(∀p ∈ acc.drop (O9 k acc),Md k p.1=true)
 | [],_,_=>by simp
 |q::r,ha,hh=>by
  obtain⟨h1,h2⟩:=List.pairwise_cons.1 ha;by_cases hq:Md q.1 k=true
  . have hh':Mg k r=false:=by
     unfold Mg at hh ⊢;simpa only[O9,if_pos hq,List.getElem?_cons_succ]using hh
    obtain⟨a,b⟩:=V4 k h2 hh';simp only[O9,if_pos hq,List.take_succ_cons,List.drop_succ_cons];refine⟨fun p hp=> ?_,b⟩;rcases List.mem_cons.1 hp with rfl|hp
    . exact hq
    . exact a p hp
  . simp only[O9,if_neg hq,List.take_zero,List.drop_zero];refine⟨fun p hp=>(by cases hp), ?_⟩;have hne:q.1≠k:=by
     intro e;unfold Mg at hh;simp only[O9,if_neg hq,List.getElem?_cons_zero,Option.any_some]at hh;rw[e]at hh;simp at hh
    have hkq:Md k q.1=true:=by
     rcases Nj q.1 k with h|h|h
     . exact absurd h hq
     . exact absurd h hne
     . exact h
    intro p hp;rcases List.mem_cons.1 hp with rfl|hp
    . exact hkq
    . exact Fp hkq (h1 p hp)
theorem Akh {m:ByteArray×Val} {acc:List (ByteArray×Val)} (ha:Ej acc) (hh:Mg m.1 acc=false):Ej (Kb m acc):=by
 obtain⟨h1,h2⟩:=V4 m.1 ha hh;have h3:Ej (acc.take (O9 m.1 acc)++acc.drop (O9 m.1 acc)):=by rw[List.take_append_drop];exact ha
 obtain⟨h4,h5,h6⟩:=List.pairwise_append.1 h3;refine List.pairwise_append.2 ⟨h4,List.pairwise_cons.2 ⟨h2,h5⟩,fun a ha b hb=> ?_⟩;rcases List.mem_cons.1 hb with rfl|hb
 . exact h1 a ha
 . exact h6 a ha b hb
theorem Xb (m:ByteArray×Val) (acc:List (ByteArray×Val)):(Kb m acc).Perm (m::acc):=by
 have h:(acc.take (O9 m.1 acc)++([m]++acc.drop (O9 m.1 acc))).Perm ([m]++(acc.take (O9 m.1 acc)++acc.drop (O9 m.1 acc))):=by
  rw[<-List.append_assoc,<-List.append_assoc];exact List.Perm.append_right _ List.perm_append_comm
 rw[List.take_append_drop]at h;exact h
theorem Ajj {k:ByteArray} {acc:List (ByteArray×Val)} (h:Mg k acc=true): ∃v,(k,v) ∈ acc:=by
 unfold Mg at h
 cases e:acc[O9 k acc]? with
 |none=>rw[e]at h;cases h
 |some p=>
  rw[e]at h;have hk:p.1=k:=toList_inj (by simpa using h);exact⟨p.2,by rw[<-hk];exact List.mem_of_getElem? e⟩
theorem Kv: ∀{l acc o:List (ByteArray×Val)},Bg l acc=some o->Ej acc->Ej o/\o.Perm (l++acc)
 | [],acc,o,h,ha=>by
   simp only[Bg,Option.some.injEq]at h;subst h;exact⟨ha,List.Perm.refl _⟩
 |m::r,acc,o,h,ha=>by
  simp only[Bg]at h;by_cases hh:Mg m.1 acc=true
  . rw[if_pos hh]at h;cases h
  . rw[if_neg hh]at h;obtain⟨h1,h2⟩:=Kv h (Akh ha (by simpa using hh));exact⟨h1,h2.trans ((List.Perm.append_left r (Xb m acc)).trans List.perm_middle)⟩
theorem Zr {l:List (ByteArray×Val)} (h:Ej l):(l.map (·.1)).Nodup:=by
 rw[List.Nodup,List.pairwise_map];exact h.imp fun hab e=>by rw[e,Ff]at hab;cases hab
theorem Mw: ∀{l acc:List (ByteArray×Val)},Bg l acc=none-> ¬((l++acc).map (·.1)).Nodup
 | [],acc,h=>by simp[Bg]at h
 |m::r,acc,h=>by
  simp only[Bg]at h;by_cases hh:Mg m.1 acc=true
  . obtain⟨v,hv⟩:=Ajj hh;intro hn;rw[List.cons_append,List.map_cons,List.nodup_cons]at hn;exact hn.1 (List.mem_map.2 ⟨(m.1,v),List.mem_append.2 (.inr hv),rfl⟩)
  . rw[if_neg hh]at h;intro hn;refine Mw h ?_;have hp:((r++Kb m acc).map (·.1)).Perm ((m::r++acc).map (·.1)):=((List.Perm.append_left r (Xb m acc)).trans List.perm_middle).map _;exact hp.nodup_iff.2 hn
theorem Ob: ∀{a b:List (ByteArray×Val)},Ej a->Ej b->a.Perm b->a=b
 | [],b,_,_,h=>(List.Perm.nil_eq h)
 |x::a, [],_,_,h=>by have:=h.length_eq;simp at this
 |x::a,y::b,ha,hb,h=>by
  obtain⟨h1,h2⟩:=List.pairwise_cons.1 ha;obtain⟨h3,h4⟩:=List.pairwise_cons.1 hb;have hxy:x=y:=by
   rcases List.mem_cons.1 (h.mem_iff.1 (List.mem_cons_self (a:=x)))with e|hx
   . exact e
   . rcases List.mem_cons.1 (h.mem_iff.2 (List.mem_cons_self (a:=y)))with e|hy
     . exact e.symm
     . have p:=h3 x hx;have q:=h1 y hy;rw[Aav p]at q
       cases q
  subst hxy;rw[Ob h2 h4 (List.perm_cons _ |>.1 h)]
theorem Vf {l d:List (ByteArray×Val)} (hp:d.Perm l) (ha:Ej d):Bg l []=some d:=by
 cases e:Bg l []with
 |none=>
  exfalso
  refine Mw e ?_;rw[List.append_nil];exact(hp.map (·.1)).nodup_iff.1 (Zr ha)
 |some o=>
  obtain⟨h1,h2⟩:=Kv e List.Pairwise.nil;rw[List.append_nil]at h2;rw[Ob ha h1 (hp.trans h2.symm)]
theorem Yn {l d:List (ByteArray×Val)} (hp:d.Perm l) (ht: ¬(d.map (·.1)).Nodup):Bg l []=none:=by
 cases e:Bg l []with
 |none=>rfl
 |some o=>
  obtain⟨h1,h2⟩:=Kv e List.Pairwise.nil;rw[List.append_nil]at h2;exact absurd ((hp.trans h2.symm).map (·.1) |>.nodup_iff.2 (Zr h1)) ht
def Af6 (w:World) (o:List (ByteArray×Val)) (e:Ending) (w':World):Prop:= ∃V ns,e=.returned V/\w'.ownsRow w.heap.size 63 7 V o.length ns/\Ag w w.heap.size (dO o) ns/\Below w.heap.size w w'
set_option maxRecDepth 100000 in
theorem Z4 (o:List (ByteArray×Val)) (a:Option Addr) (n c:Nat) (w:World) (h:Ae w w.heap.size (.row 7 (dO o)) [.slice a n c]) (hn:o.length<=100000000):
 Calls Tryz.prog 69 #[.slice a n c] w (Af6 w o):=by
 have hl:=h.row_len;rw[Ig]at hl;subst hl;obtain⟨ns,hr,hA,ho⟩:=h.reads;have hnil:=fun W=>Lib.run_eql_slice_nil (P:=Tryz.prog) W 37 63 a o.length c 0 0 Tryz.underlying37
 cases a with
 |none=>
  have h0:o.length=0:=by
   rcases Nat.eq_zero_or_pos o.length with h0|h0
   . exact h0
   . obtain⟨ad,e,_⟩:=hr.2 h0
     cases e
  have hns:ns= []:=List.eq_nil_of_length_eq_zero (by rw[hr.1,h0]);subst hns;obtain⟨H0,HA⟩:=hid2 h0 hA;clear h0 hA;clear h hr ho;go_enter Tryz.func69,Tryz.ntmps69;go_wp2;go_ret;exact⟨.slice none 0 0, [],rfl,by rw[H0.out];exact World.ownsRow_nil _ _ _ _,HA.out,Below.refl _ _⟩
 |some ad=>
  obtain⟨j0,hj,hy0,hy1,hy2⟩:=info_parts Pv;obtain⟨Hj,Hy0,Hy1,Hy2,Hr,HA,Ho⟩:=hid7 hj hy0 hy1 hy2 hr hA ho;clear hj hy0 hy1 hy2 hr hA ho;clear h;go_enter Tryz.func69,Tryz.ntmps69;have HOwn:Hid ((w.alloc (.cells #[] 63)).ownsRow w.heap.size 63 7 (.slice (some ⟨w.heap.size,0,none⟩) 0 0) 0 []):=
   ⟨by simp,.inr ⟨w.heap.size,0, #[],rfl,Nat.le_refl _,heap_alloc_new _ _,Nat.le_refl _,by unfold maxLen;omega,by simp,by simp⟩⟩
  go_wp2_with (at_builtin;refine E7 _ rfl (.tmp 5) (.tmp 6) 37 rfl w.heap.size 63 j0 (.agg #[.string ⟨#[]⟩,.int .i64 0,.bool false,.int .i64 0,.string ⟨#[]⟩,.slice none 0 0,.slice none 0 0]) 7 104 Tryz.underlying37 Hj.out Hy0.out Hy1.out Hy2.out rfl (by omega) (.slice (some ⟨w.heap.size,0,none⟩) 0 0) 0 [] rfl HOwn.out w.heap.size _ o.length _ ns rfl ?c0 ?c1 ?c2 ?c3 ?c4 ?_)
  case c0=>exact Hr.out.alloc (Nat.le_refl _) _
  case c1=>exact Ho.out
  case c2=>unfold maxLen;omega
  case c3=>omega
  case c4=>simp
  intro v1 w1 hown1 hgrow1 _;have hb:Below w.heap.size w w1:=((Below.refl _ _).alloc (Nat.le_refl _) _).grown hgrow1 (by simp) (fun g hg=>by simp[Value.ownBlock]at hg;omega);obtain⟨Hown1,Hb⟩:=hid2 hown1 hb;clear hown1 hb;clear hgrow1;go_wp2;go_ret;exact⟨v1,ns,rfl,by simpa using Hown1.out,HA.out,Hb.out⟩
def Gx:List Int:= [34,92,47,8,12,10,13,9]
theorem Rj (k:Nat) (c:Int) (h:Gx[k]? =some c) (w:World):
 Calls Tryz.prog 87 #[.int .i64 k] w fun e w'=>e=.returned (.int .i64 c)/\Below w.heap.size w w':=by
 have hk:k<8:=(List.getElem?_eq_some_iff.1 h).1;rcases(by omega:k=0\/k=1\/k=2\/k=3\/k=4\/k=5\/k=6\/k=7)with rfl|rfl|rfl|rfl|rfl|rfl|rfl|rfl
 all_goals
  (obtain rfl:=Option.some.inj h
   clear h hk;go_enter Tryz.func87,Tryz.ntmps87;go_wp2;go_ret;exact⟨rfl,(Below.refl _ _).alloc (Nat.le_refl _) _⟩)
theorem Qz {w:World} {B m:Nat} {v:Value} {ns:List Value} (h:w.ownsRow B 39 6 v m ns):
 ∃la lc,v=.slice la m lc/\(m=0\/ ∃g,la=some ⟨g,0,none⟩/\B<=g/\g<w.heap.size/\ ∀j u,ns[j]? =some u->w.cell? ⟨g,0+j,none⟩=some u):=by
 rcases h.2 with⟨rfl,hz⟩|⟨g,cap,cur,rfl,hbg,hg,_,_,_,_⟩
 . subst hz;exact⟨none,0,rfl,.inl rfl⟩
 . refine⟨_,cap,rfl,.inr ⟨g,rfl,hbg,(Array.getElem?_eq_some_iff.1 hg).1,fun j u hu=> ?_⟩⟩;have:=h.cells (g:=g) rfl j u hu;rw[Go.WideShapes.add_plain]at this;exact this
def Lu (w:World) (v:Val) (e:Ending) (w':World):Prop:=
 (∃la lc,e=.returned (.slice la (within v).length lc)/\(within v= []\/ ∃g off,la=some ⟨g,off,none⟩/\g<w'.heap.size/\Az w' w'.heap.size (within v) g off))/\Below w.heap.size w w'
set_option maxRecDepth 100000 in
theorem Ab7 (b:Bool) (n:Int) (t:ByteArray) (l:List Val) (o:List (ByteArray×Val)) (la oa:Option Addr) (oc lc:Nat) (w:World) (hl:l= []\/ ∃g off,la=some ⟨g,off,none⟩/\g<w.heap.size/\Az w w.heap.size l g off)
 (hb:Bc l<=100000000):
 Calls Tryz.prog 138 #[.agg #[.int .i64 5,.bool b,.int .i64 n,.string t,.slice la l.length lc,.slice oa o.length oc]] w (Lu w (.mk 5 b n t l o)):=by
 have hln:=D3 l;have hw:within (.mk 5 b n t l o)=l:=by simp[within]
 by_cases h0:l= []
 . subst h0;clear hl;go_enter Tryz.func138,Tryz.ntmps138;have Hw:=Lib.hid hw;clear hw
   cases la
   . go_wp2;go_ret;exact⟨⟨none,0,by rw[Hw.out];rfl,.inl Hw.out⟩,(Below.refl _ _).alloc (Nat.le_refl _) _⟩
   . go_wp2;go_ret;exact⟨⟨none,0,by rw[Hw.out];rfl,.inl Hw.out⟩,(Below.refl _ _).alloc (Nat.le_refl _) _⟩
 . obtain⟨g,off,rfl,hg,hL⟩:=hl.resolve_left h0;obtain⟨i0,hi,hz0,hz1,hz2⟩:=info_parts Pw;obtain⟨ns,hrow,hcells⟩:=Az.row hL;obtain⟨hnl,hno⟩:=hrow.len;obtain⟨HI,HZ0,HZ1,HZ2,Hrow,Hcells,Hw,HN,HO⟩:=hid9 hi hz0 hz1 hz2 hrow hcells hw hnl hno;clear hi hz0 hz1 hz2 hrow hcells hw hnl hno hl hL;obtain⟨w1,hw1⟩: ∃w1,w.alloc (.cells #[.int .i64 5,.bool b,.int .i64 n,.string t,.slice (some ⟨g,off,none⟩) l.length lc,.slice oa o.length oc] 39)=w1:=⟨_,rfl⟩;have hb1:Below w.heap.size w w1:=hw1▸(Below.refl _ _).alloc (Nat.le_refl _) _;have hbx1:w1.heap[w.heap.size]? =some (.cells #[.int .i64 5,.bool b,.int .i64 n,.string t,.slice (some ⟨g,off,none⟩) l.length lc,.slice oa o.length oc] 39 (0,0)):=by rw[<-hw1];exact heap_alloc_new _ _
   have hz1:w1.heap.size=w.heap.size+1:=by rw[<-hw1];simp
   obtain⟨HB1,HX1,HS1⟩:=hid3 hb1 hbx1 hz1;have Hown:Hid (w1.ownsRow (w.heap.size+1) 39 6 (.slice none 0 0) 0 []):=World.ownsRow_nil _ _ _ _;clear hb1 hbx1 hz1;subst hw1;go_enter Tryz.func138,Tryz.ntmps138;go_wp2_with (at_builtin;refine wpList_append_own _ rfl (.tmp 8) (.tmp 10) 36 rfl (w.heap.size+1) 39 i0 (.agg #[.int .i64 0,.bool false,.int .i64 0,.string ⟨#[]⟩,.slice none 0 0,.slice none 0 0]) 6 88 Tryz.underlying36 HI.out HZ0.out HZ1.out HZ2.out rfl (by decide) (.slice none 0 0) 0 [] rfl Hown.out ⟨g,off,none⟩ l.length lc ns rfl HN.out ?c1 ?c2 ?c3 ?c4 ?c5 ?_)
   case c1=>
    intro j u hj;rw[Go.WideShapes.add_plain];exact(HB1.out.cell (p:=⟨g,off+j,none⟩) hg).trans (Hcells.out j u hj)
   case c2=>exact HO.out
   case c3=>unfold maxLen;omega
   case c4=>omega
   case c5=>simp
   intro v' w2 hown' hgrow _;obtain⟨la',lc',rfl,hsl⟩:=Qz hown';have hbA:=((HB1.out).grown hgrow (by rw[HS1.out];omega) (fun k hk=>by simp[Value.ownBlock]at hk));have hbox2:w2.heap[w.heap.size]? =some (.cells #[.int .i64 5,.bool b,.int .i64 n,.string t,.slice (some ⟨g,off,none⟩) l.length lc,.slice oa o.length oc] 39 (0,0)):=(hgrow.block _ (by rw[HS1.out];omega) (by simp[Value.ownBlock])).trans HX1.out;have d0:w2.cell? ⟨w.heap.size,0,none⟩=some (.int .i64 5):=by rw[Lib.cell_of_heap hbox2];rfl
   obtain⟨Hsl,HbA⟩:=hid2 hsl hbA;clear hown' hgrow hsl hbA hbox2;go_wp2;go_ret;refine⟨⟨la',lc',by rw[Hw.out];rfl, ?_⟩,HbA.out⟩;rw[Hw.out];refine .inr ?_;rcases Hsl.out with h|⟨g',rfl,_,hg',hc'⟩
   . exact absurd (List.length_eq_zero_iff.1 h) h0
   . exact⟨g',0,rfl,hg',Hrow.out.holds (fun v cs h=>Ac.more HbA.out.size _ _ (h.below HbA.out)) hc'⟩
set_option maxRecDepth 100000 in
theorem Ae3 (b:Bool) (n:Int) (t:ByteArray) (l:List Val) (o:List (ByteArray×Val)) (la oa:Option Addr) (oc lc:Nat) (w:World) (hl:o= []\/ ∃g off,oa=some ⟨g,off,none⟩/\g<w.heap.size/\Au w w.heap.size o g off)
 (hb:Al o<=100000000):
 Calls Tryz.prog 138 #[.agg #[.int .i64 6,.bool b,.int .i64 n,.string t,.slice la l.length lc,.slice oa o.length oc]] w (Lu w (.mk 6 b n t l o)):=by
 have hln:=Cg o;have hw:within (.mk 6 b n t l o)=o.map (·.2):=by simp[within]
 obtain⟨i0,hi,hz0,hz1,hz2⟩:=info_parts Pw;obtain⟨HI,HZ0,HZ1,HZ2,Hw⟩:=hid5 hi hz0 hz1 hz2 hw;clear hi hz0 hz1 hz2 hw;obtain⟨w1,hw1⟩: ∃w1,w.alloc (.cells #[.int .i64 6,.bool b,.int .i64 n,.string t,.slice la l.length lc,.slice oa o.length oc] 39)=w1:=⟨_,rfl⟩;have hb1:Below w.heap.size w w1:=hw1▸(Below.refl _ _).alloc (Nat.le_refl _) _;have hbx1:w1.heap[w.heap.size]? =some (.cells #[.int .i64 6,.bool b,.int .i64 n,.string t,.slice la l.length lc,.slice oa o.length oc] 39 (0,0)):=by rw[<-hw1];exact heap_alloc_new _ _
 obtain⟨HB1,HX1⟩:=hid2 hb1 hbx1;have Hown:Hid (w1.ownsRow (w.heap.size+1) 39 6 (.slice none 0 0) 0 []):=World.ownsRow_nil _ _ _ _;have HR0:Hid (Kh w w.heap.size ((o.take 0).map (·.2)) []):=rfl;clear hb1 hbx1;subst hw1;go_enter Tryz.func138,Tryz.ntmps138;go_wp2_with (fail);go_loopw [3,4] (fun v1 i wr=> ∃(k:Nat) (ns:List Value),i=.int .i64 k/\k<=o.length/\Hid (wr.ownsRow (w.heap.size+1) 39 6 v1 k ns)/\Hid (Kh w w.heap.size ((o.take k).map (·.2)) ns)/\Hid (Below w.heap.size w wr)/\
  Hid (wr.heap[w.heap.size]? =some (.cells #[.int .i64 6,.bool b,.int .i64 n,.string t,.slice la l.length lc,.slice oa o.length oc] 39 (0,0)))) (fun _ i _=>o.length - (intOf i).toNat)
 case atStart=>exact⟨0, [],rfl,Nat.zero_le _,Hown,HR0,HB1,HX1⟩
 case round=>
  obtain⟨k,ns,rfl,hk,hown,hrow,hbw,hbx⟩:=hrel;clear Hown HR0 HB1 HX1;have b5:wr.cell? ⟨w.heap.size,5,none⟩=some (.slice oa o.length oc):=by rw[Lib.cell_of_heap hbx.out];rfl
  have hz:w.heap.size<wr.heap.size:=(Array.getElem?_eq_some_iff.1 hbx.out).1;by_cases hlt:k<o.length
  . obtain⟨g,off,rfl,hg,hL⟩: ∃g off,oa=some ⟨g,off,none⟩/\g<w.heap.size/\Au w w.heap.size o g off:=by
     rcases hl with rfl|h
     . simp at hlt
     . exact h
    obtain⟨⟨key,x⟩,hx⟩: ∃v,o[k]? =some v:=⟨_,List.getElem?_eq_getElem hlt⟩;have htk:(o.take (k+1)).map (·.2)=(o.take k).map (·.2)++ [x]:=by rw[List.take_add_one,hx];simp
    obtain⟨k',b',n',t',l',o'⟩:=x;obtain⟨la',lc',oa',oc',hvs,_,e1,e2,e3,e4,e5,e6⟩:=hL.seven hx;have cc:=fun j (u:Value) (h:w.cell? ⟨g,j,none⟩=some u)=>(hbw.out.cell (p:=⟨g,j,none⟩) hg).trans h;have c1:=cc _ _ e1;have c2:=cc _ _ e2;have c3:=cc _ _ e3;have c4:=cc _ _ e4;have c5:=cc _ _ e5;have c6:=cc _ _ e6;have hrow':=hrow.out.snoc hvs;rw[<-htk]at hrow';have Hrow:=Lib.hid hrow';have hno:=Lib.hid hvs.len.2;clear hrow' hrow htk hx hL hg e1 e2 e3 e4 e5 e6 cc hvs;go_wp2_with (at_builtin;refine wpList_append_own _ rfl (.tmp 22) (.tmp 29) 36 rfl (w.heap.size+1) 39 i0 (.agg #[.int .i64 0,.bool false,.int .i64 0,.string ⟨#[]⟩,.slice none 0 0,.slice none 0 0]) 6 88 Tryz.underlying36 HI.out HZ0.out HZ1.out HZ2.out rfl (by decide) u3 k ns rfl (hown.out.alloc _) ⟨wr.heap.size,0,none⟩ 1 1 (Eo k' b' n' t' la' l'.length lc' oa' o'.length oc') rfl rfl ?c1 ?c2 ?c3 ?c4 ?c5 ?_)
    case c1=>
     intro j u hj;rw[Go.WideShapes.add_plain];rw[Lib.cell_of_heap (heap_alloc_new wr (.cells #[.int .i64 k',.bool b',.int .i64 n',.string t',.slice la' l'.length lc',.slice oa' o'.length oc'] 39)),Nat.zero_add];simpa using hj
    case c2=>exact hno.out
    case c3=>unfold maxLen;omega
    case c4=>omega
    case c5=>simp;omega
    intro v' w2 hown' hgrow _;have ho':=Lib.hid hown';have hbA:=Lib.hid ((hbw.out.alloc (by omega) (.cells #[.int .i64 k',.bool b',.int .i64 n',.string t',.slice la' l'.length lc',.slice oa' o'.length oc'] 39)).grown hgrow (by simp;omega) (fun q hq=>by have:=(hown.out.lt q hq).1;omega));have hbx2:Hid (w2.heap[w.heap.size]? =some (.cells #[.int .i64 6,.bool b,.int .i64 n,.string t,.slice la l.length lc,.slice (some ⟨g,off,none⟩) o.length oc] 39 (0,0))):=by
     show _=_;rw[hgrow.block _ (by simp;omega) (fun e=>by have:=(hown.out.lt _ e.symm).1;omega),Lib.alloc_old wr _ _ hz];exact hbx.out
    clear hown' hgrow hown hbw hbx b5 c1 c2 c3 c4 c5 c6 hno;go_wp2;go_roundw
    case rel=>exact⟨k+1,_,by go_num,by omega,ho',Hrow,hbA,hbx2⟩
    case measure=>simp only[intOf];omega
  . obtain rfl:k=o.length:=by omega
    have hr':=hrow.out;rw[List.take_length]at hr';obtain⟨la',lc',rfl,hsl⟩:=Qz hown.out;obtain⟨Hsl,HR⟩:=hid2 hsl hr';have Hlm:Hid (o.length=(o.map (·.2)).length):=by show _=_;simp
    clear hr' hrow hsl hown hl;go_wp2;go_ret;refine⟨⟨la',lc',by rw[Hw.out,<-Hlm.out];rfl, ?_⟩,hbw.out⟩;rw[Hw.out];rcases Hsl.out with h|⟨g',rfl,_,hg',hc'⟩
    . exact .inl (by rw[List.length_eq_zero_iff.1 h];rfl)
    . exact .inr ⟨g',0,rfl,hg',HR.out.holds (fun v cs h=>Ac.more hbw.out.size _ _ (h.below hbw.out)) hc'⟩
inductive Rd (α:Type) where
 |ok (a:α) (q:Nat)
 |bad (e:Int) (q:Nat)
def Es (c:UInt8):Bool:=c==9||c==10||c==13||c==32
def blanks:List UInt8->Nat
 | []=>0
 |c::r=>if Es c=true then blanks r+1 else 0
def Ar (s:List UInt8) (p:Nat):Nat:=p+blanks (s.drop p)
theorem V7: ∀l:List UInt8,blanks l<=l.length
 | []=>Nat.le_refl _
 |c::r=>by
  unfold blanks
  split
  . have:=V7 r;simp only[List.length_cons];omega
  . exact Nat.zero_le _
theorem B6 (s:List UInt8) (p:Nat):p<=Ar s p:=Nat.le_add_right _ _
theorem E6 {s:List UInt8} {p:Nat} (h:p<=s.length):Ar s p<=s.length:=by
 have:=V7 (s.drop p);rw[List.length_drop]at this;unfold Ar;omega
theorem Er {s:List UInt8} {p:Nat} {c:UInt8} (h:s[p]? =some c):s.drop p=c::s.drop (p+1):=by
 obtain⟨hlt,rfl⟩:=List.getElem?_eq_some_iff.1 h;exact List.drop_eq_getElem_cons hlt
theorem Q5 {s:List UInt8} {p:Nat} {c:UInt8} (h:s[p]? =some c) (hb:Es c=true):Ar s p=Ar s (p+1):=by
 unfold Ar;rw[Er h,blanks,if_pos hb];omega
theorem Q6 {s:List UInt8} {p:Nat} {c:UInt8} (h:s[p]? =some c) (hb:Es c=false):Ar s p=p:=by
 unfold Ar;rw[Er h,blanks,if_neg (by rw[hb];decide)];rfl
theorem Uk {s:List UInt8} {p:Nat} (h:s.length<=p):Ar s p=p:=by
 unfold Ar;rw[List.drop_eq_nil_of_le h];rfl
theorem Al5 (s:List UInt8) (p:Nat): ∀c,s[Ar s p]? =some c->Es c=false:=by
 unfold Ar;have key: ∀(l:List UInt8) c,l[blanks l]? =some c->Es c=false:=by
  intro l
  induction l with
  |nil=>intro c h;simp at h
  |cons x r ih=>
   intro c h;unfold blanks at h
   split at h
   . rename_i hb;rw[List.getElem?_cons_succ]at h;exact ih c h
   . rename_i hb;simp only[List.getElem?_cons_zero,Option.some.injEq]at h;subst h;simpa using hb
 intro c h;exact key (s.drop p) c (by rw[List.getElem?_drop];exact h)
theorem Gr (s:List UInt8) (p:Nat):Ar s (Ar s p)=Ar s p:=by
 cases e:s[Ar s p]? with
 |none=>exact Uk (by simpa using e)
 |some c=>exact Q6 e (Al5 s p c e)
def Dj (c:UInt8):Bool:=decide (48<=c.toNat/\c.toNat<=57)
def X3:List UInt8->Nat
 | []=>0
 |c::r=>if Dj c=true then X3 r+1 else 0
theorem Afi: ∀l:List UInt8,X3 l<=l.length
 | []=>Nat.le_refl _
 |c::r=>by
  unfold X3
  split
  . have:=Afi r;simp only[List.length_cons];omega
  . exact Nat.zero_le _
def Cu (s:List UInt8) (p:Nat):Nat:=p+X3 (s.drop p)
theorem Qn (s:List UInt8) (p:Nat):p<=Cu s p:=Nat.le_add_right _ _
theorem Qo {s:List UInt8} {p:Nat} (h:p<=s.length):Cu s p<=s.length:=by
 have:=Afi (s.drop p);rw[List.length_drop]at this;unfold Cu;omega
theorem Rq {s:List UInt8} {p:Nat} {c:UInt8} (h:s[p]? =some c) (hb:Dj c=true):Cu s p=Cu s (p+1):=by
 unfold Cu;rw[Er h,X3,if_pos hb];omega
theorem Rr {s:List UInt8} {p:Nat} {c:UInt8} (h:s[p]? =some c) (hb:Dj c=false):Cu s p=p:=by
 unfold Cu;rw[Er h,X3,if_neg (by rw[hb];decide)];rfl
theorem Tw {s:List UInt8} {p:Nat} (h:s.length<=p):Cu s p=p:=by
 unfold Cu;rw[List.drop_eq_nil_of_le h];rfl
theorem Oh (s:List UInt8) (p:Nat): ∀i c,p<=i->i<Cu s p->s[i]? =some c->Dj c=true:=by
 have key: ∀(l:List UInt8) i c,i<X3 l->l[i]? =some c->Dj c=true:=by
  intro l
  induction l with
  |nil=>intro i c h;simp[X3]at h
  |cons x r ih=>
   intro i c h hc;unfold X3 at h
   split at h
   . rename_i hb
     cases i with
     |zero=>simp only[List.getElem?_cons_zero,Option.some.injEq]at hc;subst hc;exact hb
     |succ i=>rw[List.getElem?_cons_succ]at hc;exact ih i c (by omega) hc
   . omega
 intro i c h1 h2 hc;unfold Cu at h2;exact key (s.drop p) (i - p) c (by omega) (by rw[List.getElem?_drop,show p+(i - p)=i from by omega];exact hc)
def F2 (l:List UInt8):Nat:=l.foldl (fun a c=>a*10+(c.toNat - 48)) 0
theorem Agk (l:List UInt8) (c:UInt8):F2 (l++ [c])=F2 l*10+(c.toNat - 48):=by unfold F2;rw[List.foldl_append];rfl
def Fh (neg:Bool) (m p q:Nat):Rd Int:=
 if neg=true then(if m=0\/9223372036854775808<m then .bad 7 p else .ok (-(m:Int)) q)else if 9223372036854775807<m then .bad 7 p else .ok (m:Int) q
def P8 (s:List UInt8) (p f:Nat):Rd Int:=
 if Cu s f=f then .bad 4 f
 else if s[f]? =some 48/\f+1<Cu s f then .bad 4 (f+1)
 else Fh (decide (s[p]? =some 45)) (F2 ((s.drop f).take (Cu s f - f))) p (Cu s f)
def Ei (s:List UInt8) (p:Nat):Rd Int:=P8 s p (if s[p]? =some 45 then p+1 else p)
def On (c:UInt8):Option Nat:=
 if 48<=c.toNat/\c.toNat<=57 then some (c.toNat - 48)else if 97<=c.toNat/\c.toNat<=102 then some (c.toNat - 87)else if 65<=c.toNat/\c.toNat<=70 then some (c.toNat - 55)else none
def Mr:List UInt8->Nat->Nat->Option Nat
 |_,0,n=>some n
 | [],_+1,_=>none
 |c::l,k+1,n=>match On c with
  |none=>none
  |some d=>Mr l k (16*n+d)
def Dw (l:List UInt8):Option Nat:=if l.length<6\/l[0]? ≠some 92\/l[1]? ≠some 117 then none else Mr (l.drop 2) 4 0
def Ge (c:UInt8):Option Nat:=
 if c=34 then some 34 else if c=92 then some 92 else if c=47 then some 47 else if c=98 then some 8 else if c=102 then some 12 else if c=110 then some 10 else if c=114 then some 13 else if c=116 then some 9 else none
def Fu (r:Nat) (l:List UInt8):Rd Nat:=
 if r<55296\/57344<=r then .ok r 6
 else if 56320<=r then .bad 3 0
 else match Dw l with
  |none=> .bad 3 0
  |some m=>if m<56320\/57344<=m then .bad 3 0 else .ok (65536+1024*(r - 55296)+(m - 56320)) 12
def Sx (l:List UInt8):Rd Nat:=match l[1]? with
 |none=> .bad 4 0
 |some c=>match Ge c with
  |none=> .bad 4 0
  |some r=> .ok r 2
def Fl (l:List UInt8):Rd Nat:=match Dw l with
 |some r=>Fu r (l.drop 6)
 |none=>Sx l
theorem Yg {c:UInt8} {d:Nat} (h:On c=some d):d<16:=by
 unfold On at h
 split at h
 . simp at h;omega
 split at h
 . simp at h;omega
 split at h
 . simp at h;omega
 . cases h
theorem Afm: ∀(k:Nat) (l:List UInt8) (n r:Nat),Mr l k n=some r->r<(n+1)*16 ^ k
 |0,l,n,r,h=>by
  have:n=r:=by cases l<;>simpa[Mr]using h
  subst this;simp
 |k+1, [],n,r,h=>by simp[Mr]at h
 |k+1,c::l,n,r,h=>by
  simp only[Mr]at h
  cases hd:On c with
  |none=>rw[hd]at h;cases h
  |some d=>
   rw[hd]at h;have h1:=Afm k l _ r h;have h2:=Yg hd;have h3:(16*n+d+1)*16 ^ k<=((n+1)*16)*16 ^ k:=Nat.mul_le_mul_right _ (by omega);rw[Nat.pow_succ,Nat.mul_comm (16 ^ k) 16,<-Nat.mul_assoc];omega
theorem Lp {l:List UInt8} {r:Nat} (h:Dw l=some r):r<65536/\6<=l.length:=by
 unfold Dw at h
 split at h
 . cases h
 . rename_i hn;have:=Afm 4 _ _ _ h;omega
theorem Nh {l:List UInt8} {r n:Nat} (h:Fl l=.ok r n):r<=1114111/\ ¬(55296<=r/\r<57344)/\2<=n/\n<=l.length:=by
 unfold Fl at h
 cases hu:Dw l with
 |some u=>
  rw[hu]at h;obtain⟨h1,h2⟩:=Lp hu;simp only[Fu]at h
  split at h
  . simp only[Rd.ok.injEq]at h;omega
  split at h
  . cases h
  cases hm:Dw (l.drop 6)with
  |none=>rw[hm]at h;cases h
  |some m=>
   rw[hm]at h;obtain⟨h3,h4⟩:=Lp hm;rw[List.length_drop]at h4;simp only at h
   split at h
   . cases h
   . simp only[Rd.ok.injEq]at h;omega
 |none=>
  rw[hu]at h;simp only[Sx]at h
  cases hc:l[1]? with
  |none=>rw[hc]at h;cases h
  |some c=>
   rw[hc]at h;have hl:=(List.getElem?_eq_some_iff.1 hc).1;simp only at h
   cases he:Ge c with
   |none=>rw[he]at h;cases h
   |some x=>
    rw[he]at h;simp only[Rd.ok.injEq]at h;have:x<=92:=by
     unfold Ge at he
     repeat' split at he
     all_goals first|(simp at he;omega)|cases he
    omega
def Fw:Nat->List UInt8->Nat->List UInt8->Rd (List UInt8)
 |0,_,i,_=> .bad 4 i
 |f+1,s,i,out=>match s[i]? with
  |none=> .bad 4 i
  |some c=>
   if c=34 then .ok out (i+1)
   else if c.toNat<32 then .bad 4 i
   else if c=92 then(match Fl (s.drop i)with
    | .bad e _=> .bad e i
    | .ok r n=>Fw f s (i+n) (out++Lib.encodeRune (r:Int)))
   else if(Lib.decodeL (s.drop i)).1=65533/\(Lib.decodeL (s.drop i)).2=1 then .bad 3 i
   else Fw f s (i+(Lib.decodeL (s.drop i)).2) (out++(s.drop i).take (Lib.decodeL (s.drop i)).2)
def Di (s:List UInt8) (p:Nat):Rd (List UInt8):=if s[p]? =some 34 then Fw (s.length - p) s (p+1) []else .bad 4 p
theorem Ac6 {s:List UInt8} {i:Nat} (h:i<s.length):i+(Lib.decodeL (s.drop i)).2<=s.length:=by
 have:=Lib.decodeL_le (s.drop i) (by intro e;have:=congrArg List.length e;rw[List.length_drop]at this;simp at this;omega);rw[List.length_drop]at this;omega
def Rd.within {α:Type} (p n:Nat):Rd α->Prop
 | .ok _ q=>p<q/\q<=n
 | .bad e q=>p<=q/\q<=n/\1<=e/\e<=18
theorem Sk: ∀(f:Nat) (s:List UInt8) (i:Nat) (out:List UInt8),i<=s.length->(Fw f s i out).within i s.length
 |0,s,i,out,h=>⟨Nat.le_refl _,h,by decide,by decide⟩
 |f+1,s,i,out,h=>by
  unfold Fw
  cases hc:s[i]? with
  |none=>exact⟨Nat.le_refl _,h,by decide,by decide⟩
  |some c=>
   have hi:=(List.getElem?_eq_some_iff.1 hc).1;simp only;have step: ∀j o,i<j->j<=s.length->(Fw f s j o).within i s.length:=by
    intro j o h1 h2;have:=Sk f s j o h2
    cases hr:Fw f s j o with
    |ok a q=>rw[hr]at this;exact⟨by have:=this.1;omega,this.2⟩
    |bad e q=>rw[hr]at this;exact⟨by have:=this.1;omega,this.2⟩
   split
   . exact⟨by omega,by omega⟩
   split
   . exact⟨Nat.le_refl _,h,by decide,by decide⟩
   split
   . cases he:Fl (s.drop i)with
     |bad e q=>
      refine⟨Nat.le_refl _,h, ?_⟩;unfold Fl Fu Sx at he
      repeat' split at he
      all_goals first|(simp only[Rd.bad.injEq]at he;omega)|cases he
     |ok r n=>
      have:=Nh he;rw[List.length_drop]at this;exact step _ _ (by omega) (by omega)
   split
   . exact⟨Nat.le_refl _,h,by decide,by decide⟩
   . exact step _ _ (by have:=Lib.decodeL_width (s.drop i);omega) (Ac6 hi)
theorem Ex {s:List UInt8} {p:Nat} (h:p<=s.length):(Di s p).within p s.length:=by
 unfold Di
 split
 . rename_i hc;have hi:=(List.getElem?_eq_some_iff.1 hc).1;have:=Sk (s.length - p) s (p+1) [] (by omega)
   cases hr:Fw (s.length - p) s (p+1) []with
   |ok a q=>rw[hr]at this;exact⟨by have:=this.1;omega,this.2⟩
   |bad e q=>rw[hr]at this;exact⟨by have:=this.1;omega,this.2⟩
 . exact⟨Nat.le_refl _,h,by decide,by decide⟩
theorem Me {s:List UInt8} {p:Nat} (h:p<s.length):(Ei s p).within p s.length:=by
 have hf:p<=(if s[p]? =some 45 then p+1 else p)/\(if s[p]? =some 45 then p+1 else p)<=s.length:=by split<;>omega
 have h1:=Qn s (if s[p]? =some 45 then p+1 else p);have h2:=Qo hf.2;unfold Ei;generalize (if s[p]? =some 45 then p+1 else p)=F at hf h1 h2 ⊢;unfold P8 Fh;generalize Cu s F=Q at h1 h2 ⊢
 repeat' split
 all_goals(unfold Rd.within;simp only;omega)
theorem De {s:List UInt8} {p:Nat} {c:UInt8} (h:s[p]? =some c):p<s.length:=(List.getElem?_eq_some_iff.1 h).1
end Go.Proofs.YtackmnbpfbaemaaGreatDoor
namespace Go.Proofs.YtackmnbpfbaemaaGreatDoor
def Py:List UInt8->Nat
 | []=>0
 |x::r=>x.toNat+256*Py r
theorem Uc {s:Nat} (h:s<4294967296):Py (F7 s)=s:=by
 have e: ∀n,n<256->(UInt8.ofNat n).toNat=n:=fun n hn=>by
  rw[UInt8.toNat_ofNat'];exact Nat.mod_eq_of_lt (by omega)
 simp only[F7,Py];rw[e _ (by omega),e _ (by omega),e _ (by omega),e _ (by omega)];omega
def G8 (b:List UInt8):Bool:=decide (4<=b.length)&&decide (C5 0 (b.take (b.length - 4))=Py (b.drop (b.length - 4)))
theorem Zg (l:List UInt8):G8 (C1 l)=true:=by
 have h4:(F7 (C5 0 l)).length=4:=rfl;have hl:(C1 l).length - 4=l.length:=by unfold C1;rw[List.length_append,h4];omega
 unfold G8;rw[hl];unfold C1;rw[List.take_left',List.drop_left' rfl,Uc (Ly 0 l),List.length_append,h4];simp;rfl
theorem Ur {b:List UInt8} (h:G8 b=true):b=C1 (b.take (b.length - 4)):=by
 unfold G8 at h;simp only[Bool.and_eq_true,decide_eq_true_eq]at h;obtain⟨h1,h2⟩:=h;have hl:(b.drop (b.length - 4)).length=4:=by rw[List.length_drop];omega
 conv=>lhs;rw[<-List.take_append_drop (b.length - 4) b]
 unfold C1
 congr 1
 rw[h2]
 match hq:b.drop (b.length - 4),hl with
 | [p,q,r,s],_=>
   have hp:=p.toNat_lt;have hq:=q.toNat_lt;have hr:=r.toNat_lt;have hs:=s.toNat_lt;simp only[Py,F7];have e1:(p.toNat+256*(q.toNat+256*(r.toNat+256*(s.toNat+256*0)))) % 256=p.toNat:=by omega
   have e2:(p.toNat+256*(q.toNat+256*(r.toNat+256*(s.toNat+256*0)))) / 256 % 256=q.toNat:=by omega
   have e3:(p.toNat+256*(q.toNat+256*(r.toNat+256*(s.toNat+256*0)))) / 65536 % 256=r.toNat:=by omega
   have e4:(p.toNat+256*(q.toNat+256*(r.toNat+256*(s.toNat+256*0)))) / 16777216 % 256=s.toNat:=by omega
   rw[e1,e2,e3,e4];simp
end Go.Proofs.YtackmnbpfbaemaaGreatDoor
