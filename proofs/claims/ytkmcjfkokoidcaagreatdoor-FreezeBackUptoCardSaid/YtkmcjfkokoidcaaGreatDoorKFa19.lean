/- Parts: Values that may be and have the same text are the same, the values. Plain. No condition. -/
import Derived.Test.YtkmcjfkokoidcaaGreatDoorKFa18
namespace Go.Proofs.YtkmcjfkokoidcaaGreatDoor
open Go.RowKit
theorem Ami (r:Int):(Lib.encodeRune r).length<=4:=by
 have:=(Lib.encodeRuneZ_length r).2;unfold Lib.encodeRune
 rwa [List.length_map]
theorem Aj6 {r:Int} (h0:0<=r) (h:r<128):(Lib.encodeRune r).length=1:=by
 unfold Lib.encodeRune;rw[List.length_map,Lib.encodeRuneZ_one h0 (by omega)];rfl
theorem Abj {l:List UInt8} {r n:Nat} (h:Km l=.ok r n):(Lib.encodeRune (r:Int)).length<=n:=by
 have h2:=(Ta h).2.2.1;have h4:=Ami (r:Int);by_cases hn:4<=n
 . omega
 have hr:r<128\/6<=n:=by
  unfold Km at h
  cases hu:F6 l with
  |some u=>
   rw[hu]at h;simp only[Jh]at h
   split at h
   . simp only[Rd.ok.injEq]at h;omega
   split at h
   . cases h
   cases hm:F6 (l.drop 6)with
   |none=>rw[hm]at h;cases h
   |some m=>
    rw[hm]at h;simp only at h
    split at h
    . cases h
    . simp only[Rd.ok.injEq]at h;omega
  |none=>
   rw[hu]at h;simp only[Vm]at h
   cases hc:l[1]? with
   |none=>rw[hc]at h;cases h
   |some c=>
    rw[hc]at h;simp only at h
    cases he:K5 c with
    |none=>rw[he]at h;cases h
    |some x=>
     rw[he]at h;simp only[Rd.ok.injEq]at h;have:x<=92:=by
      unfold K5 at he
      repeat' split at he
      all_goals first|(simp at he;omega)|cases he
     omega
 rcases hr with hr|hr
 . have:=Aj6 (r:=(r:Int)) (by omega) (by omega);omega
 . omega
def O5 (rs:List Nat):List UInt8:=rs.flatMap fun(r:Nat)=>Lib.encodeRune (r:Int)
theorem Ye: ∀{rs:List Nat},(∀r ∈ rs,Dc r)->Lib.validD (O5 rs)=true
 | [],_=>rfl
 |r::rs,h=>by
  have e:O5 (r::rs)=Lib.encodeRune (r:Int)++O5 rs:=rfl;rw[e,Aft (h r (by simp))];exact Ye fun x hx=>h x (by simp[hx])
theorem To {l:List UInt8} (hl:l≠ []) (h: ¬((Lib.decodeL l).1=65533/\(Lib.decodeL l).2=1)):Dc (Lib.decodeL l).1:=by
 have h1:=Pt l;rw[Oy l hl,if_neg h]at h1;have:=Lib.decodeL_width l;unfold Dc;simp only at h1;omega
theorem Aad: ∀(f:Nat) (s:List UInt8) (i:Nat) (out a:List UInt8) (q:Nat),It f s i out=.ok a q->(∃rs,(∀r ∈ rs,Dc r)/\out=O5 rs)->(∃rs,(∀r ∈ rs,Dc r)/\a=O5 rs)/\a.length+i+1<=out.length+q
 |0,s,i,out,a,q,h,_=>by unfold It at h;cases h
 |f+1,s,i,out,a,q,h,ho=>by
  unfold It at h
  cases hc:s[i]? with
  |none=>rw[hc]at h;cases h
  |some c=>
   rw[hc]at h;have hi:=Cz hc;have hne:s.drop i≠ []:=by rw[Iw hc];simp
   simp only at h
   split at h
   . simp only[Rd.ok.injEq]at h;obtain⟨rfl,rfl⟩:=h;exact⟨ho,by omega⟩
   split at h
   . cases h
   obtain⟨rs,h1,h2⟩:=ho
   split at h
   . cases he:Km (s.drop i)with
     |bad e x=>rw[he]at h;cases h
     |ok r n=>
      rw[he]at h;have hok:=Ta he;have hlen:=Abj he;have hn:Dc r:=⟨hok.1,hok.2.1⟩;obtain⟨k1,k2⟩:=Aad f s _ _ _ _ h ⟨rs++ [r],fun x hx=>by
       rcases List.mem_append.1 hx with hx|hx
       . exact h1 x hx
       . simp only[List.mem_singleton]at hx;rw[hx];exact hn,by simp[O5,h2]⟩
      rw[List.length_append]at k2;exact⟨k1,by omega⟩
   split at h
   . cases h
   . rename_i hd;have hn:=To hne hd;obtain⟨k1,k2⟩:=Aad f s _ _ _ _ h ⟨rs++ [(Lib.decodeL (s.drop i)).1],fun x hx=>by
      rcases List.mem_append.1 hx with hx|hx
      . exact h1 x hx
      . simp only[List.mem_singleton]at hx;rw[hx];exact hn,by simp[O5,h2,Lib.encode_decode _ hne hd]⟩
     rw[List.length_append,List.length_take]at k2;exact⟨k1,by omega⟩
theorem Qq {s:List UInt8} {p q:Nat} {a:List UInt8} (h:Eg s p=.ok a q):Lib.validD a=true/\a.length+p+2<=q:=by
 unfold Eg at h
 split at h
 . obtain⟨⟨rs,h1,h2⟩,h3⟩:=Aad _ _ _ _ _ _ h ⟨[],fun r hr=>(by cases hr),rfl⟩;rw[h2];refine⟨Ye h1, ?_⟩;rw[<-h2];simp only[List.length_nil]at h3;omega
 . cases h
theorem Acg {s:List UInt8} {p q:Nat} {n:Int} (h:Dg s p=.ok n q): -9223372036854775808<=n/\n<=9223372036854775807:=by
 unfold Dg N5 Fs at h
 repeat' split at h
 all_goals first|(simp only[Rd.ok.injEq]at h;omega)|cases h
theorem Ws: ∀(a b:List Val),Bf (a++b)=Bf a+Bf b
 | [],b=>by simp[Bf]
 |x::r,b=>by simp only[List.cons_append,Bf,Ws r b];omega
theorem Agi: ∀{a b:List Val},Pk a->Pk b->Pk (a++b)
 | [],_,_,h=>h
 |x::r,b,h,h'=>by
  simp only[List.cons_append,Pk]at h ⊢;exact⟨h.1,Agi h.2 h'⟩
theorem Afo (l:List (ByteArray×Val)):Ab (G9 l)<=Ab l:=by
 unfold G9
 cases h:D8 l []with
 |none=>simp[Ab]
 |some o=>have:=R4 h;simp only[Ab]at this;simp only[Option.getD_some];omega
theorem Alv {l:List (ByteArray×Val)} (hi:Ew l):Ew (G9 l):=by
 unfold G9
 cases h:D8 l []with
 |none=>simp[Ew]
 |some o=>exact Xk h (by simp[Ew]) hi
theorem eb:Fl.size=0:=rfl
def Rd.sized (base p:Nat) (C:Nat):Rd Val->Prop
 | .ok v q=>v.bulk+base<=C+6*(q - p)/\p<q/\J9 v
 | .bad _ _=>True
theorem Ait: ∀(f:Nat),(∀s p d,p<=s.length->(Cc f s p d).sized 0 p 0)/\(∀s p d,p<s.length->(Kb f s p d).sized 0 p 0)/\(∀s p d,p<s.length->(Og f s p d).sized 0 p 0)/\
 (∀s p d acc,p<=s.length->Pk acc->(D7 f s p d acc).sized 0 p (6+Bf acc))/\(∀s p d acc,p<=s.length->Ew acc->(By f s p d acc).sized 0 p (6+Ab acc))/\
 (∀s p d acc k,p<=s.length->Ew acc->(Fy f s p d acc k).sized 0 p (7+Ab acc+k.size)):=by
 intro f
 induction f with
 |zero=>
  refine⟨fun s p d h=> ?_,fun s p d h=> ?_,fun s p d h=> ?_,fun s p d acc h _=> ?_,fun s p d acc h _=> ?_,fun s p d acc k h _=> ?_⟩
  . unfold Cc;trivial
  . unfold Kb;trivial
  . unfold Og;trivial
  . unfold D7;trivial
  . unfold By;trivial
  . unfold Fy;trivial
 |succ f ih=>
  obtain⟨iv,il,io,ii,im,ik⟩:=ih;have win:=Iu f;have lift: ∀{p p' q:Nat} {r:Rd Val},p<=p'->r.sized 0 p' 0->r.sized 0 p 0:=by
   intro p p' q r hp hr
   cases r with
   |ok v q=>exact⟨by have:=hr.1;omega,by have:=hr.2.1;omega,hr.2.2⟩
   |bad e q=>trivial
  refine⟨fun s p d h=> ?_,fun s p d h=> ?_,fun s p d h=> ?_,fun s p d acc h hi=> ?_,fun s p d acc h hi=> ?_,fun s p d acc k h hi=> ?_⟩
  . unfold Cc;have hp:=Fg h;have hg:=C5 s p
    cases hc:s[Aq s p]? with
    |none=>trivial
    |some c=>
     have hl:=Cz hc;simp only
     split
     . trivial
     split
     . trivial
     split
     . exact lift (q:=0) hg (il s _ d hl)
     split
     . exact lift (q:=0) hg (io s _ d hl)
     split
     . cases hu:Eg s (Aq s p)with
       |bad e q=>trivial
       |ok a q=>
        obtain⟨_,h2⟩:=Qq hu;refine⟨?_,by omega,by simp[Add,J9,Pk,Ew]⟩;simp only[Add,Val.bulk,Bf,Ab,Ob];omega
     split
     . unfold Dh
       split
       . refine⟨?_,by simp only[List.length_cons,List.length_nil];omega,by simp[F5,J9,Pk,Ew]⟩;simp only[F5,Val.bulk,Bf,Ab,eb,List.length_cons,List.length_nil];omega
       . trivial
     split
     . unfold Dh
       split
       . refine⟨?_,by simp only[List.length_cons,List.length_nil];omega,by simp[Ib,J9,Pk,Ew]⟩;simp only[Ib,Val.bulk,Bf,Ab,eb,List.length_cons,List.length_nil];omega
       . trivial
     split
     . unfold Dh
       split
       . refine⟨?_,by simp only[List.length_cons,List.length_nil];omega,by simp[Ib,J9,Pk,Ew]⟩;simp only[Ib,Val.bulk,Bf,Ab,eb,List.length_cons,List.length_nil];omega
       . trivial
     . have hw:=Mo hl
       cases hu:Dg s (Aq s p)with
       |bad e q=>trivial
       |ok n q=>
        have hn:=Acg hu;rw[hu]at hw;have:=hw.1;refine⟨?_,by omega,by simp only[Q4,J9,Pk,Ew];exact⟨hn,trivial,trivial⟩⟩;simp only[Q4,Val.bulk,Bf,Ab,eb];omega
  . unfold Kb;have hp:=Fg (s:=s) (p:=p+1) h;have hg:=C5 s (p+1)
    split
    . refine⟨?_,by omega,by simp[Su,J9,Pk,Ew]⟩;simp only[Su,Val.bulk,Bf,Ab,eb];omega
    . have:=ii s _ d [] hp (by simp[Pk])
      cases hr:D7 f s (Aq s (p+1)) d []with
      |bad e q=>trivial
      |ok v q=>
       rw[hr]at this;obtain⟨h1,h2,h3⟩:=this;simp only[Bf]at h1;exact⟨by omega,by omega,h3⟩
  . unfold Og;have hp:=Fg (s:=s) (p:=p+1) h;have hg:=C5 s (p+1)
    split
    . refine⟨?_,by omega,by simp[Rb,J9,Pk,Ew]⟩;simp only[Rb,Val.bulk,Bf,Ab,eb];omega
    . have:=im s _ d [] hp (by simp[Ew])
      cases hr:By f s (Aq s (p+1)) d []with
      |bad e q=>trivial
      |ok v q=>
       rw[hr]at this;obtain⟨h1,h2,h3⟩:=this;simp only[Ab]at h1;exact⟨by omega,by omega,h3⟩
  . unfold D7;have hv:=iv s p (d+1) h;have hw:=win.1 s p (d+1) h
    cases hr:Cc f s p (d+1)with
    |bad e q=>trivial
    |ok v q=>
     rw[hr]at hv hw;obtain⟨h1,h2⟩:=hw;obtain⟨k1,_,k3⟩:=hv;have hg:=C5 s q;have e1:Bf (acc++ [v])=Bf acc+v.bulk:=by rw[Ws];simp[Bf]
     have e2:Pk (acc++ [v]):=Agi hi ⟨k3,trivial⟩;simp only
     split
     . rename_i hc;have:=ii s _ d _ (Cz hc) e2
       cases hr2:D7 f s (Aq s q+1) d (acc++ [v])with
       |bad e q=>trivial
       |ok v' q'=>
        rw[hr2]at this;obtain⟨a1,a2,a3⟩:=this;exact⟨by omega,by omega,a3⟩
     split
     . refine⟨?_,by omega, ?_⟩
       . simp only[Su,Val.bulk,Ab,eb];omega
       . simp only[Su,J9,Ew];exact⟨by omega,e2,trivial⟩
     . trivial
  . unfold By;have hp0:=Fg h;have hg0:=C5 s p;have hw:=Hu hp0
    cases hr:Eg s (Aq s p)with
    |bad e q=>trivial
    |ok k q=>
     rw[hr]at hw;have hu:=(Qq hr).2;have hg:=C5 s q;simp only
     split
     . trivial
     split
     . rename_i hc;have:=ik s _ d acc ⟨k.toArray⟩ (Cz hc) hi
       cases hr2:Fy f s (Aq s q+1) d acc ⟨k.toArray⟩with
       |bad e q=>trivial
       |ok v' q'=>
        rw[hr2]at this;obtain⟨a1,a2,a3⟩:=this;rw[Ob]at a1;exact⟨by omega,by omega,a3⟩
     . trivial
  . unfold Fy;have hv:=iv s p (d+1) h;have hw:=win.1 s p (d+1) h
    cases hr:Cc f s p (d+1)with
    |bad e q=>trivial
    |ok v q=>
     rw[hr]at hv hw;obtain⟨h1,h2⟩:=hw;obtain⟨k1,_,k3⟩:=hv;have hg:=C5 s q;have e1:Ab (acc++ [(k,v)])=Ab acc+(1+k.size+v.bulk):=by rw[Da];simp[Ab,Ic]
     have e2:Ew (acc++ [(k,v)]):=Td hi ⟨k3,trivial⟩;simp only
     split
     . rename_i hc;have:=im s _ d _ (Cz hc) e2
       cases hr2:By f s (Aq s q+1) d (acc++ [(k,v)])with
       |bad e q=>trivial
       |ok v' q'=>
        rw[hr2]at this;obtain⟨a1,a2,a3⟩:=this;exact⟨by omega,by omega,a3⟩
     split
     . have e3:=Afo (acc++ [(k,v)]);refine⟨?_,by omega, ?_⟩
       . simp only[Rb,Val.bulk,Bf,eb];omega
       . simp only[Rb,J9,Pk];exact⟨by omega,trivial,Alv e2⟩
     . trivial
theorem le_of_lt {a b:ByteArray} (h:Dp b a=true):leB a b=false:=by
 unfold leB;have h1:=Ud h;unfold Dp at h1;rw[h1,Bool.false_or]
 cases e:(a.toList==b.toList)with
 |false=>rfl
 |true=>
  have:a=b:=Gr (by simpa using e);subst this;rw[Iq]at h;cases h
theorem Ue: ∀{l:List (ByteArray×Val)} {last:Option ByteArray} {d:Int},Ay l->(∀m ∈ l,A9 m.1=true/\Au m.2 d=0)->(∀q,last=some q-> ∀m ∈ l,Dp q m.1=true)->Ep l last d=0
 | [],_,_,_,_,_=>by simp[Ep]
 |(k,v)::r,last,d,ha,hm,hq=>by
  obtain⟨h1,h2⟩:=List.pairwise_cons.1 ha;obtain⟨m1,m2⟩:=hm (k,v) (by simp);have hP:Q6 (k,v) last d=0:=by
   simp only[Q6];rw[if_pos m1]
   cases last with
   |none=>exact m2
   |some q=>
    have:=le_of_lt (hq q rfl (k,v) (by simp));simp only at this ⊢;rw[this,if_neg (by decide)];exact m2
  simp only[Ep];rw[if_pos hP];refine Ue h2 (fun m hm'=>hm m (by simp[hm'])) (fun q hq' m hm'=> ?_);obtain rfl:=Option.some.inj hq';exact h1 m hm'
theorem Agn: ∀{l:List Val} {d:Int},(∀v ∈ l,Au v d=0)->C2 l d=0
 | [],_,_=>by simp[C2]
 |v::r,d,h=>by
  simp only[C2];rw[if_pos (h v (by simp))];exact Agn fun x hx=>h x (by simp[hx])
theorem T4 {k:ByteArray} {l:List (ByteArray×Val)}:Lj k l=true ↔ k ∈ l.map (·.1):=by
 unfold Lj;simp[List.any_eq_true]
theorem U5 {l:List (ByteArray×Val)} (h:(l.map (·.1)).Nodup):D8 l []=some (G9 l)/\Ay (G9 l)/\(G9 l).Perm l:=by
 unfold G9
 cases e:D8 l []with
 |none=>exact absurd (by rw[List.append_nil];exact h) (Nb e)
 |some o=>
  obtain⟨h1,h2⟩:=Nc e List.Pairwise.nil;rw[List.append_nil]at h2;exact⟨rfl,h1,h2⟩
theorem Ae7 {l:List (ByteArray×Val)} {k:ByteArray} {v:Val} (h:(l.map (·.1)).Nodup) (hk:Lj k l=false):((l++ [(k,v)]).map (·.1)).Nodup:=by
 rw[List.map_append,List.nodup_append];refine⟨h,by simp,fun a ha b hb=> ?_⟩;simp only[List.map_cons,List.map_nil,List.mem_singleton]at hb;subst hb;intro e;subst e;rw[T4.2 ha]at hk;cases hk
theorem Aky {d:Int} (h:d<=64):Au F5 d=0:=by
 simp only[F5,Au,List.length_nil];rw[if_neg (by decide+kernel),if_neg (by omega),if_pos (by decide+kernel)];simp[C2,Ep]
theorem Ab5 (b:Bool) {d:Int} (h:d<=64):Au (Ib b) d=0:=by
 simp only[Ib,Au,List.length_nil];rw[if_neg (by cases b<;>decide+kernel),if_neg (by omega),if_pos (by decide+kernel)];simp[C2,Ep]
theorem Amw (n:Int) {d:Int} (h:d<=64):Au (Q4 n) d=0:=by
 simp only[Q4,Au,List.length_nil];rw[if_neg (by simp[Gm,Fl]),if_neg (by omega),if_pos (by decide+kernel)];simp[C2,Ep]
theorem Amx {a:List UInt8} (ha:Lib.validD a=true) {d:Int} (h:d<=64):Au (Add a) d=0:=by
 simp only[Add,Au,List.length_nil];rw[if_neg (by simp[Gm]),if_neg (by omega),if_pos (by exact ha)];simp[C2,Ep]
theorem Ago {l:List Val} {d:Int} (h:d<=64) (hl: ∀v ∈ l,Au v (d+1)=0):Au (Su l) d=0:=by
 simp only[Su,Au,List.length_nil];rw[if_neg (by simp[Gm,Fl]),if_neg (by omega),if_pos (by decide+kernel),if_pos (Agn hl)];simp[Ep]
theorem Ab7 {o:List (ByteArray×Val)} {d:Int} (h:d<=64) (ha:Ay o) (ho: ∀m ∈ o,A9 m.1=true/\Au m.2 (d+1)=0):Au (Rb o) d=0:=by
 simp only[Rb,Au,List.length_nil];rw[if_neg (by simp[Gm,Fl]),if_neg (by omega),if_pos (by decide+kernel),if_pos (by simp[C2])];exact Ue ha ho (fun q hq=>by cases hq)
def Rd.mayIt (d:Int):Rd Val->Prop
 | .ok v _=>Au v d=0
 | .bad _ _=>True
theorem Amv: ∀(f:Nat),(∀s p d,(Cc f s p d).mayIt d)/\(∀s p d,d<=64->(Kb f s p d).mayIt d)/\(∀s p d,d<=64->(Og f s p d).mayIt d)/\
 (∀s p d acc,d<=64->(∀v ∈ acc,Au v (d+1)=0)->(D7 f s p d acc).mayIt d)/\
 (∀s p d acc,d<=64->(∀m ∈ acc,A9 m.1=true/\Au m.2 (d+1)=0)->(acc.map (·.1)).Nodup->(By f s p d acc).mayIt d)/\
 (∀s p d acc k,d<=64->(∀m ∈ acc,A9 m.1=true/\Au m.2 (d+1)=0)->(acc.map (·.1)).Nodup->Lj k acc=false->A9 k=true->(Fy f s p d acc k).mayIt d):=by
 intro f
 induction f with
 |zero=>
  refine⟨fun s p d=> ?_,fun s p d _=> ?_,fun s p d _=> ?_,fun s p d acc _ _=> ?_,fun s p d acc _ _ _=> ?_,fun s p d acc k _ _ _ _ _=> ?_⟩
  . unfold Cc;trivial
  . unfold Kb;trivial
  . unfold Og;trivial
  . unfold D7;trivial
  . unfold By;trivial
  . unfold Fy;trivial
 |succ f ih=>
  obtain⟨iv,il,io,ii,im,ik⟩:=ih;refine⟨fun s p d=> ?_,fun s p d h=> ?_,fun s p d h=> ?_,fun s p d acc h hi=> ?_,fun s p d acc h hi hn=> ?_,fun s p d acc k h hi hn hk hv=> ?_⟩
  . unfold Cc
    cases hc:s[Aq s p]? with
    |none=>trivial
    |some c=>
     simp only
     split
     . trivial
     split
     . trivial
     rename_i hd;have hd':d<=64:=by omega
     split
     . exact il s _ d hd'
     split
     . exact io s _ d hd'
     split
     . cases hu:Eg s (Aq s p)with
       |bad e q=>trivial
       |ok a q=>exact Amx (Qq hu).1 hd'
     split
     . unfold Dh
       split
       . exact Aky hd'
       . trivial
     split
     . unfold Dh
       split
       . exact Ab5 true hd'
       . trivial
     split
     . unfold Dh
       split
       . exact Ab5 false hd'
       . trivial
     . cases hu:Dg s (Aq s p)with
       |bad e q=>trivial
       |ok n q=>exact Amw n hd'
  . unfold Kb
    split
    . exact Ago h (fun v hv=>by cases hv)
    . exact ii s _ d [] h (fun v hv=>by cases hv)
  . unfold Og
    split
    . exact Ab7 h List.Pairwise.nil (fun v hv=>by cases hv)
    . exact im s _ d [] h (fun v hv=>by cases hv) (by simp)
  . unfold D7;have hv:=iv s p (d+1)
    cases hr:Cc f s p (d+1)with
    |bad e q=>trivial
    |ok v q=>
     rw[hr]at hv;have e2: ∀x ∈ acc++ [v],Au x (d+1)=0:=by
      intro x hx;rcases List.mem_append.1 hx with hx|hx
      . exact hi x hx
      . simp only[List.mem_singleton]at hx;rw[hx];exact hv
     simp only
     split
     . exact ii s _ d _ h e2
     split
     . exact Ago h e2
     . trivial
  . unfold By
    cases hr:Eg s (Aq s p)with
    |bad e q=>trivial
    |ok k q=>
     simp only
     split
     . trivial
     rename_i hk
     split
     . exact ik s _ d acc ⟨k.toArray⟩ h hi hn (by simpa using hk) (Qq hr).1
     . trivial
  . unfold Fy;have hm:=iv s p (d+1)
    cases hr:Cc f s p (d+1)with
    |bad e q=>trivial
    |ok v q=>
     rw[hr]at hm;have e2: ∀x ∈ acc++ [(k,v)],A9 x.1=true/\Au x.2 (d+1)=0:=by
      intro x hx;rcases List.mem_append.1 hx with hx|hx
      . exact hi x hx
      . simp only[List.mem_singleton]at hx;rw[hx];exact⟨hv,hm⟩
     have e3:=Ae7 (v:=v) hn hk;simp only
     split
     . exact im s _ d _ h e2 e3
     split
     . obtain⟨_,s2,s3⟩:=U5 e3;exact Ab7 h s2 (fun m hm=>e2 m (s3.mem_iff.1 hm))
     . trivial
theorem Ai6 {f:Nat} {s:List UInt8} {p q:Nat} {d:Int} {v:Val} (h:Cc f s p d=.ok v q):Au v d=0:=by
 have:=(Amv f).1 s p d;rw[h]at this;exact this
theorem Rf {s:List UInt8} {v:Val} {q:Nat} (h:Fe s=.ok v q):Au v 1=0/\q=s.length/\v.bulk<=6*s.length/\J9 v:=by
 unfold Fe at h
 cases hr:Cc (4*s.length+4) s 0 1 with
 |bad e q=>rw[hr]at h;cases h
 |ok v' q'=>
  rw[hr]at h;simp only at h;have hw:=(Iu (4*s.length+4)).1 s 0 1 (Nat.zero_le _);have hs:=(Ait (4*s.length+4)).1 s 0 1 (Nat.zero_le _);rw[hr]at hw hs;have h2:=Fg hw.2
  split at h
  . cases h
  . simp only[Rd.ok.injEq]at h;obtain⟨rfl,rfl⟩:=h;have h3:=hs.1;have h4:=hw.2;exact⟨Ai6 hr,by omega,by omega,hs.2.2⟩
theorem Rc {k:Int} {b:Bool} {n:Int} {t:ByteArray} {ln on:Nat} (h:Gm k b n t ln on=false):(k=2\/b=false)/\(k=3\/n=0):=by
 unfold Gm at h;by_cases h1:k=1
 . subst h1;simp at h;exact⟨.inr h.1.1.1.1,.inr h.1.1.1.2⟩
 by_cases h2:k=2
 . subst h2;simp at h;exact⟨.inl rfl,.inr h.1.1.1⟩
 by_cases h3:k=3
 . subst h3;simp at h;exact⟨.inr h.1.1.1,.inl rfl⟩
 by_cases h4:k=4
 . subst h4;simp at h;exact⟨.inr h.1.1.1,.inr h.1.1.2⟩
 by_cases h5:k=5
 . subst h5;simp at h;exact⟨.inr h.1.1.1,.inr h.1.1.2⟩
 by_cases h6:k=6
 . subst h6;simp at h;exact⟨.inr h.1.1.1,.inr h.1.1.2⟩
 simp[h1,h2,h3,h4,h5,h6]at h
def Ag1 (c:UInt8):Prop:=c=44\/c=93\/c=125
def X4:List UInt8->Prop
 | []=>True
 |c::_=>Ag1 c
theorem Ag2: ∀(a b:List UInt8),(∀c ∈ a, ¬Ag1 c)->(∀c ∈ b, ¬Ag1 c)-> ∀{x y:List UInt8},X4 x->X4 y->a++x=b++y->a=b/\x=y
 | [], [],_,_,x,y,_,_,e=>⟨rfl,e⟩
 | [],d::b,_,hb,x,y,hx,_,e=>by
   have e':x=d::(b++y):=e;rw[e']at hx;exact absurd hx (hb d (by simp))
 |c::a, [],ha,_,x,y,_,hy,e=>by
  have e':c::(a++x)=y:=e;rw[<-e']at hy;exact absurd hy (ha c (by simp))
 |c::a,d::b,ha,hb,x,y,hx,hy,e=>by
  obtain⟨h1,h2⟩:=List.cons.inj e;obtain⟨h3,h4⟩:=Ag2 a b (fun z hz=>ha z (by simp[hz])) (fun z hz=>hb z (by simp[hz])) hx hy h2;exact⟨by rw[h1,h3],h4⟩
theorem L7 (u:Nat): ∀c ∈ Fi u,48<=c.toNat/\c.toNat<=57:=by
 induction u using Nat.strongRecOn with
 |_ u ih=>
  intro c hc;by_cases h:u=0
  . subst h;rw[Im]at hc
    cases hc
  . rw[Lh h]at hc;rcases List.mem_append.1 hc with hc|hc
    . exact ih (u / 10) (by omega) c hc
    . simp only[List.mem_singleton]at hc;subst hc;have: ∀d:Fin 10,48<=(dgt d.val).toNat/\(dgt d.val).toNat<=57:=by decide
      exact this ⟨u % 10,by omega⟩
def Aia (l:List UInt8):Nat:=l.foldl (fun a c=>a*10+(c.toNat - 48)) 0
theorem Ra (u:Nat):Aia (Fi u)=u:=by
 induction u using Nat.strongRecOn with
 |_ u ih=>
  by_cases h:u=0
  . subst h;rw[Im];rfl
  . rw[Lh h];unfold Aia;rw[List.foldl_append];have:=ih (u / 10) (by omega);unfold Aia at this;rw[this];have hd: ∀d:Fin 10,(dgt d.val).toNat - 48=d.val:=by decide
    have:=hd ⟨u % 10,by omega⟩;simp only[List.foldl_cons,List.foldl_nil];simp only at this;omega
def Amy:List UInt8->Int
 | []=>0
 |c::r=>if c=45 then -(Aia r:Int)else Aia (c::r)
theorem Xj (n:Int):Amy (Lib.itoa n)=n:=by
 by_cases h:n<0
 . have e:Lib.itoa n=45::Fi n.natAbs:=by rw[Lib.itoa,if_pos h,Gz _ (by omega)]
   rw[e];simp only[Amy];rw[if_pos trivial,Ra];omega
 . by_cases h0:n=0
   . subst h0;have e:Lib.itoa 0= [48]:=by
      rw[Lib.itoa,if_neg (by omega)];exact Lib.decDigits_one (i:=0) (by omega)
     rw[e];rfl
   . have e:Lib.itoa n=Fi n.toNat:=by rw[Lib.itoa,if_neg h,Gz _ (by omega)]
     rw[e];have hr:=L7 n.toNat;have hn:=Ra n.toNat
     cases hd:Fi n.toNat with
     |nil=>rw[hd]at hn;unfold Amy;have:Aia []=0:=rfl;omega
     |cons c r=>
      rw[hd]at hr hn;simp only[Amy];have hc:=hr c (by simp);have hc45:c≠45:=by
       intro e;subst e;have:(45:UInt8).toNat=45:=rfl;omega
      rw[if_neg hc45,hn];omega
theorem Akm {n m:Int} (h:Lib.itoa n=Lib.itoa m):n=m:=by rw[<-Xj n,h,Xj]
theorem Md (n:Int): ∀c ∈ Lib.itoa n,c.toNat=45\/(48<=c.toNat/\c.toNat<=57):=by
 intro c hc;by_cases h:n<0
 . have e:Lib.itoa n=45::Fi n.natAbs:=by rw[Lib.itoa,if_pos h,Gz _ (by omega)]
   rw[e]at hc;rcases List.mem_cons.1 hc with rfl|hc
   . exact .inl rfl
   . exact .inr (L7 _ c hc)
 . by_cases h0:n=0
   . subst h0;have e:Lib.itoa 0= [48]:=by
      rw[Lib.itoa,if_neg (by omega)];exact Lib.decDigits_one (i:=0) (by omega)
     rw[e]at hc;simp only[List.mem_singleton]at hc;subst hc;exact .inr (by decide)
   . have e:Lib.itoa n=Fi n.toNat:=by rw[Lib.itoa,if_neg h,Gz _ (by omega)]
     rw[e]at hc;exact .inr (L7 _ c hc)
theorem Acf {c:UInt8} (h:c.toNat=45\/(48<=c.toNat/\c.toNat<=57)): ¬Ag1 c:=by
 intro hs;have e1:(44:UInt8).toNat=44:=rfl;have e2:(93:UInt8).toNat=93:=rfl;have e3:(125:UInt8).toNat=125:=rfl;rcases hs with rfl|rfl|rfl<;>omega
def L0 (k:Int) (c:UInt8):Prop:=
 (k=1/\c.toNat=110)\/(k=2/\(c.toNat=116\/c.toNat=102))\/(k=3/\(c.toNat=45\/(48<=c.toNat/\c.toNat<=57)))\/(k=4/\c.toNat=34)\/(k=5/\c.toNat=91)\/(k=6/\c.toNat=123)
theorem Adz {k:Int} (b:Bool) (n:Int) (t:ByteArray) (l:List Val) (o:List (ByteArray×Val)) (hk:k=1\/k=2\/k=3\/k=4\/k=5\/k=6): ∃c y,Am (.mk k b n t l o)=c::y/\L0 k c:=by
 unfold L0;rcases hk with rfl|rfl|rfl|rfl|rfl|rfl
 . exact⟨110, [117,108,108],by simp[Am],.inl ⟨rfl,rfl⟩⟩
 . cases b
   . exact⟨102, [97,108,115,101],by simp only[Am];rfl,.inr (.inl ⟨rfl,.inr rfl⟩)⟩
   . exact⟨116, [114,117,101],by simp only[Am];rfl,.inr (.inl ⟨rfl,.inl rfl⟩)⟩
 . have e:Am (.mk 3 b n t l o)=Lib.itoa n:=by simp[Am]
   rw[e]
   cases hi:Lib.itoa n with
   |nil=>exact absurd hi (Zc n)
   |cons c y=>
    have:=Md n c (by rw[hi];simp);exact⟨c,y,rfl,.inr (.inr (.inl ⟨rfl,this⟩))⟩
 . exact⟨34,_,by simp only[Am];rfl,.inr (.inr (.inr (.inl ⟨rfl,rfl⟩)))⟩
 . exact⟨91,_,by simp only[Am];rfl,.inr (.inr (.inr (.inr (.inl ⟨rfl,rfl⟩))))⟩
 . exact⟨123,_,by simp only[Am];rfl,.inr (.inr (.inr (.inr (.inr ⟨rfl,rfl⟩))))⟩
theorem Ad0 {k:Int} {c:UInt8} (h:L0 k c):c≠93/\c≠125:=by
 unfold L0 at h;have e2:(93:UInt8).toNat=93:=rfl;have e3:(125:UInt8).toNat=125:=rfl;constructor<;>(rintro rfl;omega)
theorem Aax {k k':Int} {c:UInt8} (h:L0 k c) (h':L0 k' c):k=k':=by
 unfold L0 at h h';omega
theorem Uf {k:Int} {b:Bool} {n:Int} {t:ByteArray} {l:List Val} {o:List (ByteArray×Val)} {d:Int} (h:Au (.mk k b n t l o) d=0):k=1\/k=2\/k=3\/k=4\/k=5\/k=6:=(Fa (Em h).1).1
theorem Sg (v:Val) {d:Int} (h:Au v d=0): ∃c y,Am v=c::y/\c≠93/\c≠125:=by
 obtain⟨k,b,n,t,l,o⟩:=v;obtain⟨c,y,e,hc⟩:=Adz b n t l o (Uf h);exact⟨c,y,e,Ad0 hc⟩
def Ano (a:Val):Prop:= ∀(b:Val) (d d':Int) (x y:List UInt8),Au a d=0->Au b d'=0->X4 x->X4 y->Am a++x=Am b++y->a=b/\x=y
theorem X5 (l:List Val) (x:List UInt8):X4 (Bq l false++93::x):=by
 cases l with
 |nil=>exact .inr (.inl rfl)
 |cons v r=>simp only[Bq];exact .inl rfl
theorem U6 (l:List (ByteArray×Val)) (x:List UInt8):X4 (Bs l false++125::x):=by
 cases l with
 |nil=>exact .inr (.inr rfl)
 |cons v r=>simp only[Bs];exact .inl rfl
theorem Aa7: ∀(l l':List Val) (f:Bool),(∀v ∈ l,Ano v)-> ∀{d d':Int} {x y:List UInt8},C2 l d=0->C2 l' d'=0->Bq l f++93::x=Bq l' f++93::y->l=l'/\x=y
 | [], [],f,_,d,d',x,y,_,_,e=>⟨rfl,by simpa[Bq]using e⟩
 | [],v::r,f,_,d,d',x,y,_,hm',e=>by
   obtain⟨c,z,hc,h1,_⟩:=Sg v (G2 hm' v (by simp))
   exfalso
   cases f
   . simp[Bq]at e
   . simp[Bq,hc]at e;exact h1 e.1.symm
 |v::r, [],f,_,d,d',x,y,hm,_,e=>by
  obtain⟨c,z,hc,h1,_⟩:=Sg v (G2 hm v (by simp))
  exfalso
  cases f
  . simp[Bq]at e
  . simp[Bq,hc]at e;exact h1 e.1
 |v::r,v'::r',f,h,d,d',x,y,hm,hm',e=>by
  have e':Am v++(Bq r false++93::x)=Am v'++(Bq r' false++93::y):=by
   cases f
   . simp only[Bq]at e;have:=(List.cons.inj (show(44::((Am v++Bq r false)++93::x):List UInt8)=44::((Am v'++Bq r' false)++93::y)from e)).2
     rwa [List.append_assoc,List.append_assoc]at this
   . simp only[Bq]at e;have:(Am v++Bq r false)++93::x=(Am v'++Bq r' false)++93::y:=e
     rwa [List.append_assoc,List.append_assoc]at this
  obtain⟨h1,h2⟩:=h v (by simp) v' d d' _ _ (G2 hm v (by simp)) (G2 hm' v' (by simp)) (X5 _ _) (X5 _ _) e';have hmr:C2 r d=0:=by
   simp only[C2]at hm
   rwa [if_pos (G2 (l:=v::r) (by simp only[C2];exact hm) v (by simp))]at hm
  have hmr':C2 r' d'=0:=by
   simp only[C2]at hm'
   rwa [if_pos (G2 (l:=v'::r') (by simp only[C2];exact hm') v' (by simp))]at hm'
  obtain⟨h3,h4⟩:=Aa7 r r' false (fun u hu=>h u (by simp[hu])) hmr hmr' h2;exact⟨by rw[h1,h3],h4⟩
theorem Af8: ∀(l l':List (ByteArray×Val)) (f:Bool),(∀m ∈ l,Ano m.2)-> ∀{d d':Int} {x y:List UInt8},(∀m ∈ l,A9 m.1=true/\Au m.2 d=0)->(∀m ∈ l',A9 m.1=true/\Au m.2 d'=0)->Bs l f++125::x=Bs l' f++125::y->l=l'/\x=y
 | [], [],f,_,d,d',x,y,_,_,e=>⟨rfl,by simpa[Bs]using e⟩
 | [],(k,v)::r,f,_,d,d',x,y,_,_,e=>by
   exfalso
   cases f<;>simp[Bs,Lq,Bl]at e
 |(k,v)::r, [],f,_,d,d',x,y,_,_,e=>by
  exfalso
  cases f<;>simp[Bs,Lq,Bl]at e
 |(k,v)::r,(k',v')::r',f,h,d,d',x,y,hm,hm',e=>by
  have e':Bl k++(58::(Am v++(Bs r false++125::x)))=Bl k'++(58::(Am v'++(Bs r' false++125::y))):=by
   cases f
   . simp only[Bs,Lq]at e;have:=(List.cons.inj (show(44::(((Bl k++58::Am v)++Bs r false)++125::x):List UInt8)=44::(((Bl k'++58::Am v')++Bs r' false)++125::y)from e)).2;simpa[List.append_assoc]using this
   . simp only[Bs,Lq]at e;have:((Bl k++58::Am v)++Bs r false)++125::x=((Bl k'++58::Am v')++Bs r' false)++125::y:=e;simpa[List.append_assoc]using this
  have m1:=hm (k,v) (by simp);have m2:=hm' (k',v') (by simp);simp only at m1 m2;obtain⟨h1,h2⟩:=Xv m1.1 m2.1 e';obtain⟨h3,h4⟩:=h (k,v) (by simp) v' d d' _ _ m1.2 m2.2 (U6 _ _) (U6 _ _) (List.cons.inj h2).2;simp only at h3;obtain⟨h5,h6⟩:=Af8 r r' false (fun u hu=>h u (by simp[hu])) (fun u hu=>hm u (by simp[hu])) (fun u hu=>hm' u (by simp[hu])) h4;exact⟨by rw[h1,h3,h5],h6⟩
theorem Apc: ∀a,Ano a:=by
 refine Val.ind ?_;intro k b n t l o hl ho v d d' x y hm hm' hx hy e;obtain⟨k',b',n',t',l',o'⟩:=v;obtain⟨hodd,_,hvt,hmL,hmO⟩:=Em hm;obtain⟨hodd',_,hvt',hmL',hmO'⟩:=Em hm';obtain⟨c,z,hc,hb⟩:=Adz b n t l o (Uf hm);obtain⟨c',z',hc',hb'⟩:=Adz b' n' t' l' o' (Uf hm');have hkk:k=k':=by
  rw[hc,hc']at e;have:c=c':=(List.cons.inj e).1;subst this;exact Aax hb hb'
 subst hkk;obtain⟨hk,p1,p2,p3⟩:=Fa hodd;obtain⟨_,q1,q2,q3⟩:=Fa hodd';obtain⟨p4,p5⟩:=Rc hodd;obtain⟨q4,q5⟩:=Rc hodd';have nl: ∀{α:Type} {l:List α},l.length=0->l= []:=fun h=>List.length_eq_zero_iff.1 h;clear hc hc' hb hb';rcases hk with rfl|rfl|rfl|rfl|rfl|rfl
 . have e1:Am (.mk 1 b n t l o)=Am (.mk 1 b' n' t' l' o'):=by simp[Am]
   rw[e1]at e;refine⟨?_,List.append_cancel_left e⟩;rw[p4.resolve_left (by decide),q4.resolve_left (by decide),p5.resolve_left (by decide),q5.resolve_left (by decide),p1.resolve_left (by decide),q1.resolve_left (by decide),nl (p2.resolve_left (by decide)),nl (q2.resolve_left (by decide)),nl (p3.resolve_left (by decide)),nl (q3.resolve_left (by decide))]
 . have e1:Am (.mk 2 b n t l o)=Lib.formatBool b:=by simp[Am]
   have e2:Am (.mk 2 b' n' t' l' o')=Lib.formatBool b':=by simp[Am]
   rw[e1,e2]at e;have hbb:b=b':=by
    cases b<;>cases b'<;>first|rfl|(exfalso;have:=(List.cons.inj e).1;revert this;decide)
   subst hbb;refine⟨?_,List.append_cancel_left e⟩;rw[p5.resolve_left (by decide),q5.resolve_left (by decide),p1.resolve_left (by decide),q1.resolve_left (by decide),nl (p2.resolve_left (by decide)),nl (q2.resolve_left (by decide)),nl (p3.resolve_left (by decide)),nl (q3.resolve_left (by decide))]
 . have e1:Am (.mk 3 b n t l o)=Lib.itoa n:=by simp[Am]
   have e2:Am (.mk 3 b' n' t' l' o')=Lib.itoa n':=by simp[Am]
   rw[e1,e2]at e;obtain⟨h1,h2⟩:=Ag2 _ _ (fun c hc=>Acf (Md n c hc)) (fun c hc=>Acf (Md n' c hc)) hx hy e;have hnn:=Akm h1;subst hnn;refine⟨?_,h2⟩;rw[p4.resolve_left (by decide),q4.resolve_left (by decide),p1.resolve_left (by decide),q1.resolve_left (by decide),nl (p2.resolve_left (by decide)),nl (q2.resolve_left (by decide)),nl (p3.resolve_left (by decide)),nl (q3.resolve_left (by decide))]
 . have e1:Am (.mk 4 b n t l o)=Bl t:=by simp[Am]
   have e2:Am (.mk 4 b' n' t' l' o')=Bl t':=by simp[Am]
   rw[e1,e2]at e;obtain⟨h1,h2⟩:=Xv hvt hvt' e;subst h1;refine⟨?_,h2⟩;rw[p4.resolve_left (by decide),q4.resolve_left (by decide),p5.resolve_left (by decide),q5.resolve_left (by decide),nl (p2.resolve_left (by decide)),nl (q2.resolve_left (by decide)),nl (p3.resolve_left (by decide)),nl (q3.resolve_left (by decide))]
 . have e1:Am (.mk 5 b n t l o)=91::(Bq l true++ [93]):=by simp[Am]
   have e2:Am (.mk 5 b' n' t' l' o')=91::(Bq l' true++ [93]):=by simp[Am]
   rw[e1,e2]at e;have e3:=(List.cons.inj (show(91::((Bq l true++ [93])++x):List UInt8)=91::((Bq l' true++ [93])++y)from e)).2;rw[List.append_assoc,List.append_assoc]at e3;obtain⟨h1,h2⟩:=Aa7 l l' true hl hmL hmL' e3;subst h1;refine⟨?_,h2⟩;rw[p4.resolve_left (by decide),q4.resolve_left (by decide),p5.resolve_left (by decide),q5.resolve_left (by decide),p1.resolve_left (by decide),q1.resolve_left (by decide),nl (p3.resolve_left (by decide)),nl (q3.resolve_left (by decide))]
 . have e1:Am (.mk 6 b n t l o)=123::(Bs o true++ [125]):=by simp[Am]
   have e2:Am (.mk 6 b' n' t' l' o')=123::(Bs o' true++ [125]):=by simp[Am]
   rw[e1,e2]at e;have e3:=(List.cons.inj (show(123::((Bs o true++ [125])++x):List UInt8)=123::((Bs o' true++ [125])++y)from e)).2;rw[List.append_assoc,List.append_assoc]at e3;obtain⟨h1,h2⟩:=Af8 o o' true ho (Kc hmO) (Kc hmO') e3;subst h1;refine⟨?_,h2⟩;rw[p4.resolve_left (by decide),q4.resolve_left (by decide),p5.resolve_left (by decide),q5.resolve_left (by decide),p1.resolve_left (by decide),q1.resolve_left (by decide),nl (p2.resolve_left (by decide)),nl (q2.resolve_left (by decide))]
theorem Alx {a b:Val} {d d':Int} (ha:Au a d=0) (hb:Au b d'=0) (e:Am a=Am b):a=b:=by
 refine(Apc a b d d' [] [] ha hb trivial trivial ?_).1;rw[List.append_nil,List.append_nil];exact e
end Go.Proofs.YtkmcjfkokoidcaaGreatDoor
