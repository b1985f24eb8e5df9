/- Parts: Rows that a call builds by append, of data of any make. Plain. No condition. -/
import Derived.Lib.Strings
import Derived.Test.YtkmcjfkokoidcaaGreatDoorKFa2
import Derived.Test.YtkmcjfkokoidcaaGreatDoorKFa3
namespace Go.Proofs.YtkmcjfkokoidcaaGreatDoor
open Go.RowKit
theorem I6.app {w:World} {B:Nat}: ∀{a b:List (ByteArray×Val)} {ns ms:List Value},I6 w B a ns->I6 w B b ms->I6 w B (a++b) (ns++ms)
 | [],b,ns,ms,h,h'=>by
   have:ns= []:=h;subst this;exact h'
 |(k,v)::r,b,ns,ms,⟨cs,rest,e,h1,h2⟩,h'=>by
  subst e;exact⟨cs,rest++ms,by simp,h1,I6.app h2 h'⟩
theorem I6.len {w:World} {B:Nat}: ∀{l:List (ByteArray×Val)} {ns:List Value},I6 w B l ns->ns.length=l.length*7/\ ∀u ∈ ns,u.oneCell'=true
 | [],ns,h=>by
   have:ns= []:=h;subst this;exact⟨rfl,fun u hu=>by cases hu⟩
 |(k,v)::r,ns,⟨cs,rest,e,h1,h2⟩=>by
  subst e;obtain⟨a1,a2⟩:=h1.len;obtain⟨b1,b2⟩:=I6.len h2;refine⟨by rw[List.length_cons,List.length_append,a1,b1,List.length_cons];omega,fun u hu=> ?_⟩;rcases List.mem_cons.1 hu with rfl|hu
  . rfl
  rcases List.mem_append.1 hu with hu|hu
  . exact a2 u hu
  . exact b2 u hu
theorem I6.split {w:World} {B:Nat}: ∀{l:List (ByteArray×Val)} {ns:List Value} (k:Nat),I6 w B l ns->I6 w B (l.take k) (ns.take (k*7))/\I6 w B (l.drop k) (ns.drop (k*7))
 | [],ns,k,h=>by
   have:ns= []:=h;subst this;simp[I6]
 |(key,v)::r,ns,0,h=>by
  simp only[List.take_zero,Nat.zero_mul,List.drop_zero];exact⟨rfl,h⟩
 |(key,v)::r,ns,k+1,⟨cs,rest,e,h1,h2⟩=>by
  subst e;obtain⟨a,b⟩:=I6.split k h2;have hl:=h1.len.1;have e1:(Value.string key::(cs++rest)).take ((k+1)*7)=.string key::(cs++rest.take (k*7)):=by
   rw[show(k+1)*7=(6+k*7)+1 from by omega,List.take_succ_cons,List.take_append,hl,List.take_of_length_le (by omega),show 6+k*7 - 6=k*7 from by omega]
  have e2:(Value.string key::(cs++rest)).drop ((k+1)*7)=rest.drop (k*7):=by
   rw[show(k+1)*7=(6+k*7)+1 from by omega,List.drop_succ_cons,List.drop_append,hl,List.drop_eq_nil_of_le (by omega),show 6+k*7 - 6=k*7 from by omega,List.nil_append]
  rw[e1,e2];exact⟨⟨cs,rest.take (k*7),rfl,h1,a⟩,b⟩
theorem Da: ∀(a b:List (ByteArray×Val)),Ab (a++b)=Ab a+Ab b
 | [],b=>by simp[Ab]
 |x::r,b=>by simp only[List.cons_append,Ab,Da r b];omega
theorem Te: ∀{a b:List (ByteArray×Val)},Ew a->Ew b->Ew (a++b)
 | [],_,_,h=>h
 |x::r,b,h,h'=>by
  simp only[List.cons_append,Ew]at h ⊢;exact⟨h.1,Te h.2 h'⟩
def Dp (a b:ByteArray):Bool:=Op.bytesLess a.toList b.toList
def Do (k:ByteArray):List (ByteArray×Val)->Nat
 | []=>0
 |p::r=>if Dp p.1 k then Do k r+1 else 0
def Cb (k:ByteArray) (acc:List (ByteArray×Val)):Bool:=(acc[Do k acc]?).any fun p=>p.1.toList==k.toList
def Aff (m:ByteArray×Val) (acc:List (ByteArray×Val)):List (ByteArray×Val):=acc.take (Do m.1 acc)++([m]++acc.drop (Do m.1 acc))
def D8:List (ByteArray×Val)->List (ByteArray×Val)->Option (List (ByteArray×Val))
 | [],acc=>some acc
 |m::r,acc=>if Cb m.1 acc then none else D8 r (Aff m acc)
theorem Ys (k:ByteArray): ∀acc,Do k acc<=acc.length
 | []=>Nat.zero_le _
 |p::r=>by
  have:=Ys k r;simp only[Do,List.length_cons]
  split<;>omega
theorem Aha (m:ByteArray×Val) (acc:List (ByteArray×Val)):Ab (Aff m acc)=Ab acc+Ib m:=by
 have h:=congrArg Ab (List.take_append_drop (Do m.1 acc) acc);rw[Da]at h;simp only[Aff,Da,Ab];omega
theorem Abv: ∀{l:List (ByteArray×Val)} (k:Nat),Ew l->Ew (l.take k)
 | [],k,_=>by simp[Ew]
 |_::_,0,_=>by simp[Ew]
 |x::r,k+1,h=>by
  simp only[List.take_succ_cons,Ew]at h ⊢;exact⟨h.1,Abv k h.2⟩
theorem Abt: ∀{l:List (ByteArray×Val)} (k:Nat),Ew l->Ew (l.drop k)
 | [],k,_=>by simp[Ew]
 |_::_,0,h=>h
 |x::r,k+1,h=>by
  simp only[List.drop_succ_cons,Ew]at h ⊢;exact Abt k h.2
theorem Amq {m:ByteArray×Val} {acc:List (ByteArray×Val)} (h:Ew acc) (hm:J8 m.2):Ew (Aff m acc):=by
 obtain⟨k,v⟩:=m;exact Te (Abv _ h) (Te ⟨hm,trivial⟩ (Abt _ h))
theorem R5: ∀{l acc o:List (ByteArray×Val)},D8 l acc=some o->Ab o=Ab acc+Ab l
 | [],acc,o,h=>by
   simp only[D8,Option.some.injEq]at h;subst h;simp[Ab]
 |m::r,acc,o,h=>by
  simp only[D8]at h;by_cases hh:Cb m.1 acc=true
  . rw[if_pos hh]at h;cases h
  . rw[if_neg hh]at h;rw[R5 h,Aha];simp only[Ab];omega
theorem Xl: ∀{l acc o:List (ByteArray×Val)},D8 l acc=some o->Ew acc->Ew l->Ew o
 | [],acc,o,h,ha,_=>by
   simp only[D8,Option.some.injEq]at h;exact h▸ha
 |(k,v)::r,acc,o,h,ha,hl=>by
  simp only[D8]at h;by_cases hh:Cb k acc=true
  . rw[if_pos hh]at h;cases h
  . rw[if_neg hh]at h;exact Xl h (Amq ha hl.1) hl.2
theorem Lf: ∀x:List UInt8,Op.bytesLess x x=false
 | []=>rfl
 |a::x=>by simp[Op.bytesLess,Lf x,UInt8.lt_irrefl]
theorem Tm: ∀{x y z:List UInt8},Op.bytesLess x y=true->Op.bytesLess y z=true->Op.bytesLess x z=true
 |_, [],_,h,_=>by cases ‹List UInt8› <;>simp[Op.bytesLess]at h
 |_,_::_, [],_,h=>by simp[Op.bytesLess]at h
 | [],_::_,_::_,_,_=>rfl
 |a::x,b::y,c::z,h,k=>by
  simp only[Op.bytesLess,Bool.or_eq_true,Bool.and_eq_true,decide_eq_true_eq,beq_iff_eq]at h k ⊢;rcases h with h|⟨rfl,h⟩<;>rcases k with k|⟨rfl,k⟩
  . exact .inl (UInt8.lt_trans h k)
  . exact .inl h
  . exact .inl k
  . exact .inr ⟨rfl,Tm h k⟩
theorem Ad2: ∀(x y:List UInt8),Op.bytesLess x y=true\/x=y\/Op.bytesLess y x=true
 | [], []=> .inr (.inl rfl)
 | [],_::_=> .inl rfl
 |_::_, []=> .inr (.inr rfl)
 |a::x,b::y=>by
  simp only[Op.bytesLess,Bool.or_eq_true,Bool.and_eq_true,decide_eq_true_eq,beq_iff_eq];rcases Nat.lt_trichotomy a.toNat b.toNat with h|h|h
  . exact .inl (.inl (UInt8.lt_iff_toNat_lt.2 h))
  . have hab:a=b:=UInt8.toNat_inj.1 h;subst hab;rcases Ad2 x y with h|h|h
    . exact .inl (.inr ⟨rfl,h⟩)
    . exact .inr (.inl (by rw[h]))
    . exact .inr (.inr (.inr ⟨rfl,h⟩))
  . exact .inr (.inr (.inl (UInt8.lt_iff_toNat_lt.2 h)))
theorem Gq {a b:ByteArray} (h:a.toList=b.toList):a=b:=by
 rw[Lib.toList_data,Lib.toList_data]at h;exact ByteArray.ext (Array.ext' h)
theorem Ip (a:ByteArray):Dp a a=false:=Lf _
theorem C0 {a b c:ByteArray} (h:Dp a b=true) (k:Dp b c=true):Dp a c=true:=Tm h k
theorem Kt (a b:ByteArray):Dp a b=true\/a=b\/Dp b a=true:=by
 rcases Ad2 a.toList b.toList with h|h|h
 . exact .inl h
 . exact .inr (.inl (Gq h))
 . exact .inr (.inr h)
theorem Ue {a b:ByteArray} (h:Dp a b=true):Dp b a=false:=by
 cases e:Dp b a with
 |false=>rfl
 |true=>have:=C0 h e;rw[Ip]at this;cases this
def Ay (l:List (ByteArray×Val)):Prop:=l.Pairwise fun a b=>Dp a.1 b.1=true
theorem Wl (k:ByteArray): ∀{acc:List (ByteArray×Val)},Ay acc->Cb k acc=false->(∀p ∈ acc.take (Do k acc),Dp p.1 k=true)/\(∀p ∈ acc.drop (Do k acc),Dp k p.1=true)
 | [],_,_=>by simp
 |q::r,ha,hh=>by
  obtain⟨h1,h2⟩:=List.pairwise_cons.1 ha;by_cases hq:Dp q.1 k=true
  . have hh':Cb k r=false:=by
     unfold Cb at hh ⊢;simpa only[Do,if_pos hq,List.getElem?_cons_succ]using hh
    obtain⟨a,b⟩:=Wl k h2 hh';simp only[Do,if_pos hq,List.take_succ_cons,List.drop_succ_cons];refine⟨fun p hp=> ?_,b⟩;rcases List.mem_cons.1 hp with rfl|hp
    . exact hq
    . exact a p hp
  . simp only[Do,if_neg hq,List.take_zero,List.drop_zero];refine⟨fun p hp=>(by cases hp), ?_⟩;have hne:q.1≠k:=by
     intro e;unfold Cb at hh;simp only[Do,if_neg hq,List.getElem?_cons_zero,Option.any_some]at hh;rw[e]at hh;simp at hh
    have hkq:Dp k q.1=true:=by
     rcases Kt q.1 k with h|h|h
     . exact absurd h hq
     . exact absurd h hne
     . exact h
    intro p hp;rcases List.mem_cons.1 hp with rfl|hp
    . exact hkq
    . exact C0 hkq (h1 p hp)
theorem All {m:ByteArray×Val} {acc:List (ByteArray×Val)} (ha:Ay acc) (hh:Cb m.1 acc=false):Ay (Aff m acc):=by
 obtain⟨h1,h2⟩:=Wl m.1 ha hh;have h3:Ay (acc.take (Do m.1 acc)++acc.drop (Do m.1 acc)):=by rw[List.take_append_drop];exact ha
 obtain⟨h4,h5,h6⟩:=List.pairwise_append.1 h3;refine List.pairwise_append.2 ⟨h4,List.pairwise_cons.2 ⟨h2,h5⟩,fun a ha b hb=> ?_⟩;rcases List.mem_cons.1 hb with rfl|hb
 . exact h1 a ha
 . exact h6 a ha b hb
theorem Xv (m:ByteArray×Val) (acc:List (ByteArray×Val)):(Aff m acc).Perm (m::acc):=by
 have h:(acc.take (Do m.1 acc)++([m]++acc.drop (Do m.1 acc))).Perm ([m]++(acc.take (Do m.1 acc)++acc.drop (Do m.1 acc))):=by
  rw[<-List.append_assoc,<-List.append_assoc];exact List.Perm.append_right _ List.perm_append_comm
 rw[List.take_append_drop]at h;exact h
theorem Ake {k:ByteArray} {acc:List (ByteArray×Val)} (h:Cb k acc=true): ∃v,(k,v) ∈ acc:=by
 unfold Cb at h
 cases e:acc[Do k acc]? with
 |none=>rw[e]at h;cases h
 |some p=>
  rw[e]at h;have hk:p.1=k:=Gq (by simpa using h);exact⟨p.2,by rw[<-hk];exact List.mem_of_getElem? e⟩
theorem Nf: ∀{l acc o:List (ByteArray×Val)},D8 l acc=some o->Ay acc->Ay o/\o.Perm (l++acc)
 | [],acc,o,h,ha=>by
   simp only[D8,Option.some.injEq]at h;subst h;exact⟨ha,List.Perm.refl _⟩
 |m::r,acc,o,h,ha=>by
  simp only[D8]at h;by_cases hh:Cb m.1 acc=true
  . rw[if_pos hh]at h;cases h
  . rw[if_neg hh]at h;obtain⟨h1,h2⟩:=Nf h (All ha (by simpa using hh));exact⟨h1,h2.trans ((List.Perm.append_left r (Xv m acc)).trans List.perm_middle)⟩
theorem Aas {l:List (ByteArray×Val)} (h:Ay l):(l.map (·.1)).Nodup:=by
 rw[List.Nodup,List.pairwise_map];exact h.imp fun hab e=>by rw[e,Ip]at hab;cases hab
theorem Nc: ∀{l acc:List (ByteArray×Val)},D8 l acc=none-> ¬((l++acc).map (·.1)).Nodup
 | [],acc,h=>by simp[D8]at h
 |m::r,acc,h=>by
  simp only[D8]at h;by_cases hh:Cb m.1 acc=true
  . obtain⟨v,hv⟩:=Ake hh;intro hn;rw[List.cons_append,List.map_cons,List.nodup_cons]at hn;exact hn.1 (List.mem_map.2 ⟨(m.1,v),List.mem_append.2 (.inr hv),rfl⟩)
  . rw[if_neg hh]at h;intro hn;refine Nc h ?_;have hp:((r++Aff m acc).map (·.1)).Perm ((m::r++acc).map (·.1)):=((List.Perm.append_left r (Xv m acc)).trans List.perm_middle).map _;exact hp.nodup_iff.2 hn
theorem Oy: ∀{a b:List (ByteArray×Val)},Ay a->Ay b->a.Perm b->a=b
 | [],b,_,_,h=>(List.Perm.nil_eq h)
 |x::a, [],_,_,h=>by have:=h.length_eq;simp at this
 |x::a,y::b,ha,hb,h=>by
  obtain⟨h1,h2⟩:=List.pairwise_cons.1 ha;obtain⟨h3,h4⟩:=List.pairwise_cons.1 hb;have hxy:x=y:=by
   rcases List.mem_cons.1 (h.mem_iff.1 (List.mem_cons_self (a:=x)))with e|hx
   . exact e
   . rcases List.mem_cons.1 (h.mem_iff.2 (List.mem_cons_self (a:=y)))with e|hy
     . exact e.symm
     . have p:=h3 x hx;have q:=h1 y hy;rw[Ue p]at q
       cases q
  subst hxy;rw[Oy h2 h4 (List.perm_cons _ |>.1 h)]
theorem Vr {l d:List (ByteArray×Val)} (hp:d.Perm l) (ha:Ay d):D8 l []=some d:=by
 cases e:D8 l []with
 |none=>
  exfalso
  refine Nc e ?_;rw[List.append_nil];exact(hp.map (·.1)).nodup_iff.1 (Aas ha)
 |some o=>
  obtain⟨h1,h2⟩:=Nf e List.Pairwise.nil;rw[List.append_nil]at h2;rw[Oy ha h1 (hp.trans h2.symm)]
theorem Bn (g off i:Nat):(⟨g,off,none⟩:Addr).add i=⟨g,off+i,none⟩:=Go.WideShapes.add_plain g off i
theorem Ag.reads {w:World} {B s:Nat} {l:List D} {a:Option Addr} {n c:Nat} (h:Ag w B (.row s l) [.slice a n c]): ∃ns,Bu w B s a n ns/\Af w B l ns/\ ∀u ∈ ns,u.oneCell'=true:=by
 have hn:=h.row_len;obtain⟨a',c',e,hs,ns,h1,h2⟩:=h;simp only[List.cons.injEq,Value.slice.injEq,and_true]at e;obtain⟨rfl,rfl,rfl⟩:=e;refine⟨ns,⟨by rw[h1.len.1,Fj hs],fun h0=> ?_⟩,h1,h1.len.2⟩;rcases h2 with rfl|⟨g,off,e,hg,hc⟩
 . simp at h0
 . exact⟨_,e,hg,fun j u hu=>by rw[Bn];exact hc j u hu⟩
def E5 (b:Nat) (t:TypeId) (s:Nat) (wr:World) (l:List D) (V:Value):Prop:=
 ∃ns,wr.ownsRow b t s V l.length ns/\(∀d ∈ l,d.cells=s)/\ ∀w'':World,wr.heap.size<=w''.heap.size->
  (∀p:Addr,b<=p.block->p.block<wr.heap.size->V.ownBlock≠some p.block->w''.cell? p=wr.cell? p)->Af w'' wr.heap.size l ns
theorem E5.nil (b:Nat) (t:TypeId) (s:Nat) (wr:World):E5 b t s wr [] (.slice none 0 0):=⟨[],World.ownsRow_nil _ _ _ _,fun d hd=>(by cases hd),fun _ _ _=>rfl⟩
theorem E5.base {b:Nat} {t:TypeId} {s:Nat} {wr:World} {l:List D} {V:Value} (h:E5 b t s wr l V): ∀g,V.ownBlock=some g->b<=g/\g<wr.heap.size:=by
 obtain⟨ns,h1,_⟩:=h;exact h1.lt
theorem E5.keep {b:Nat} {t:TypeId} {s:Nat} {wr w':World} {l:List D} {V:Value} (h:E5 b t s wr l V) (hs:wr.heap.size<=w'.heap.size) (hk: ∀i,b<=i->i<wr.heap.size->w'.heap[i]? =wr.heap[i]?):E5 b t s w' l V:=by
 obtain⟨ns,h1,h2,h3⟩:=h;refine⟨ns,⟨h1.1, ?_⟩,h2,fun w'' k1 k2=>Af.more (h3 w'' (by omega) (fun p p1 p2 p3=>(k2 p p1 (by omega) p3).trans (World.cell?_of_block (hk p.block p1 p2)))) hs⟩;rcases h1.2 with⟨rfl,h0⟩|⟨g,cap,cur,rfl,hbg,hg,h5⟩
 . exact .inl ⟨rfl,h0⟩
 . exact .inr ⟨g,cap,cur,rfl,hbg,(hk g hbg (Array.getElem?_eq_some_iff.1 hg).1).trans hg,h5⟩
theorem E5.below {b:Nat} {t:TypeId} {s:Nat} {wr w':World} {l:List D} {V:Value} (h:E5 b t s wr l V) (hb:Below wr.heap.size wr w'):E5 b t s w' l V:=h.keep hb.size fun i _ hi=>hb.block i hi
theorem E5.step {b:Nat} {t:TypeId} {s:Nat} {wr w4 w6:World} {l:List D} {V V':Value} {d:D} {cs ns:List Value} (hbw:b<=wr.heap.size)
 (hns: ∀w'':World,wr.heap.size<=w''.heap.size->(∀p:Addr,b<=p.block->p.block<wr.heap.size->V.ownBlock≠some p.block->w''.cell? p=wr.cell? p)->Af w'' wr.heap.size l ns)
 (hall: ∀d ∈ l,d.cells=s) (hd:d.cells=s) (hx:Ch wr.heap.size w4 d cs) (hlt: ∀g,V.ownBlock=some g->g<wr.heap.size)
 (hown:w6.ownsRow b t s V' (l.length+1) (ns++cs)) (hV:V'.ownBlock=V.ownBlock\/ ∃N,V'.ownBlock=some N/\w4.heap.size<=N)
 (hs4:wr.heap.size<=w4.heap.size) (hs6:w4.heap.size<=w6.heap.size) (h4: ∀p:Addr,b<=p.block->p.block<wr.heap.size->w4.cell? p=wr.cell? p)
 (h6: ∀p:Addr,b<=p.block->p.block<w4.heap.size->V.ownBlock≠some p.block->w6.cell? p=w4.cell? p):E5 b t s w6 (l++ [d]) V':=by
 refine⟨ns++cs,by rw[List.length_append];exact hown, ?_,fun w'' hsz hag=> ?_⟩
 . intro x hx';rcases List.mem_append.1 hx' with hx'|hx'
   . exact hall x hx'
   . simp only[List.mem_cons,List.not_mem_nil,or_false]at hx';rw[hx'];exact hd
 . have hnew: ∀p:Addr,p.block<w4.heap.size->V.ownBlock≠some p.block->V'.ownBlock≠some p.block:=by
    intro p p2 p3;rcases hV with e|⟨N,e,hN⟩
    . rw[e];exact p3
    . rw[e];intro e2;have:=Option.some.inj e2;omega
   have a1:Af w'' w6.heap.size l ns:=Af.more (hns w'' (by omega) (fun p p1 p2 p3=>by
    rw[hag p p1 (by omega) (hnew p (by omega) p3),h6 p p1 (by omega) p3,h4 p p1 p2])) (by omega)
   have a2:Ag w'' w6.heap.size d cs:=Ag.more (hx w'' (by omega) (fun p p1 p2=>by
    have p3:V.ownBlock≠some p.block:=fun e=>by have:=hlt _ e;omega
    rw[hag p (by omega) (by omega) (hnew p p2 p3),h6 p (by omega) p2 p3])) hs6
   exact a1.snoc a2
theorem E5.close {b:Nat} {t:TypeId} {s:Nat} {wr:World} {l:List D} {V:Value} (h:E5 b t s wr l V):
 ∃a c,V=.slice a l.length c/\l.length<=c/\Ch b wr (.row s l) [.slice a l.length c]/\((l= []/\a=none/\c=0)\/ ∃g,a=some ⟨g,0,none⟩/\b<=g/\g<wr.heap.size):=by
 obtain⟨ns,h1,h2,h3⟩:=h;have h1':=h1;rcases h1.2 with⟨rfl,h0⟩|⟨g,cap,cur,rfl,hbg,hg,hnc,_⟩
 . have hl:l= []:=List.eq_nil_of_length_eq_zero h0;subst hl;exact⟨none,0,rfl,Nat.le_refl _,fun _ _ _=>⟨none,0,rfl,h2, [],rfl,.inl rfl⟩,.inl ⟨rfl,rfl,rfl⟩⟩
 . have hgl:=(Array.getElem?_eq_some_iff.1 hg).1;refine⟨_,cap,rfl,hnc,fun w'' k1 k2=>⟨_,cap,rfl,h2,ns,h3 w'' k1 (fun p p1 p2 _=>k2 p p1 p2),.inr ⟨g,0,rfl,hgl,fun j u hu=> ?_⟩⟩,.inr ⟨g,rfl,hbg,hgl⟩⟩;have h5:=h1'.cells (g:=g) rfl j u hu;rw[Bn]at h5;exact(k2 _ hbg hgl).trans h5
end Go.Proofs.YtkmcjfkokoidcaaGreatDoor
