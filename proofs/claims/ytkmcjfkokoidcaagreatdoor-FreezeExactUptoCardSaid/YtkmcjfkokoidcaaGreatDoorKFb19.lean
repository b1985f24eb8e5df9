/- Parts: A range over an iterator that asks the body to keep what is its (K), by a body that may leave the function. No condition. -/
import Derived.Test.YtkmcjfkokoidcaaGreatDoorKFb17
namespace Go.Proofs.YtkmcjfkokoidcaaGreatDoor
open Go.RowKit
theorem Qn (r:Int):(Lib.encodeRune r).length<=4:=by
 have:=(Lib.encodeRuneZ_length r).2;unfold Lib.encodeRune
 rwa [List.length_map]
theorem Ad7 {r:Int} (h0:0<=r) (h:r<128):(Lib.encodeRune r).length=1:=by
 unfold Lib.encodeRune;rw[List.length_map,Lib.encodeRuneZ_one h0 (by omega)];rfl
theorem Re {l:List UInt8} {r n:Nat} (h:Ex l=.ok r n):(Lib.encodeRune (r:Int)).length<=n:=by
 have h2:=(Lc h).2.2.1;have h4:=Qn (r:Int);by_cases hn:4<=n
 . omega
 have hr:r<128\/6<=n:=by
  unfold Ex at h
  cases hu:C4 l with
  |some u=>
   rw[hu]at h;simp only[E4]at h
   split at h
   . simp only[Rd.ok.injEq]at h;omega
   split at h
   . cases h
   cases hm:C4 (l.drop 6)with
   |none=>rw[hm]at h;cases h
   |some m=>
    rw[hm]at h;simp only at h
    split at h
    . cases h
    . simp only[Rd.ok.injEq]at h;omega
  |none=>
   rw[hu]at h;simp only[Qd]at h
   cases hc:l[1]? with
   |none=>rw[hc]at h;cases h
   |some c=>
    rw[hc]at h;simp only at h
    cases he:Fj c with
    |none=>rw[he]at h;cases h
    |some x=>
     rw[he]at h;simp only[Rd.ok.injEq]at h;have:x<=92:=by
      unfold Fj at he
      repeat' split at he
      all_goals first|(simp at he;omega)|cases he
     omega
 rcases hr with hr|hr
 . have:=Ad7 (r:=(r:Int)) (by omega) (by omega);omega
 . omega
def Mc (rs:List Nat):List UInt8:=rs.flatMap fun(r:Nat)=>Lib.encodeRune (r:Int)
theorem T1: ∀{rs:List Nat},(∀r ∈ rs,El r)->Lib.validD (Mc rs)=true
 | [],_=>rfl
 |r::rs,h=>by
  have e:Mc (r::rs)=Lib.encodeRune (r:Int)++Mc rs:=rfl;rw[e,Aan (h r (by simp))];exact T1 fun x hx=>h x (by simp[hx])
theorem Ma {l:List UInt8} (hl:l≠ []) (h: ¬((Lib.decodeL l).1=65533/\(Lib.decodeL l).2=1)):El (Lib.decodeL l).1:=by
 have h1:=M0 l;rw[Jq l hl,if_neg h]at h1;have:=Lib.decodeL_width l;unfold El;simp only at h1;omega
theorem Vr: ∀(f:Nat) (s:List UInt8) (i:Nat) (out a:List UInt8) (q:Nat),E6 f s i out=.ok a q->(∃rs,(∀r ∈ rs,El r)/\out=Mc rs)->(∃rs,(∀r ∈ rs,El r)/\a=Mc rs)/\a.length+i+1<=out.length+q
 |0,s,i,out,a,q,h,_=>by unfold E6 at h;cases h
 |f+1,s,i,out,a,q,h,ho=>by
  unfold E6 at h
  cases hc:s[i]? with
  |none=>rw[hc]at h;cases h
  |some c=>
   rw[hc]at h;have hi:=Ct hc;have hne:s.drop i≠ []:=by rw[D0 hc];simp
   simp only at h
   split at h
   . simp only[Rd.ok.injEq]at h;obtain⟨rfl,rfl⟩:=h;exact⟨ho,by omega⟩
   split at h
   . cases h
   obtain⟨rs,h1,h2⟩:=ho
   split at h
   . cases he:Ex (s.drop i)with
     |bad e x=>rw[he]at h;cases h
     |ok r n=>
      rw[he]at h;have hok:=Lc he;have hlen:=Re he;have hn:El r:=⟨hok.1,hok.2.1⟩;obtain⟨k1,k2⟩:=Vr f s _ _ _ _ h ⟨rs++ [r],fun x hx=>by
       rcases List.mem_append.1 hx with hx|hx
       . exact h1 x hx
       . simp only[List.mem_singleton]at hx;rw[hx];exact hn,by simp[Mc,h2]⟩
      rw[List.length_append]at k2;exact⟨k1,by omega⟩
   split at h
   . cases h
   . rename_i hd;have hn:=Ma hne hd;obtain⟨k1,k2⟩:=Vr f s _ _ _ _ h ⟨rs++ [(Lib.decodeL (s.drop i)).1],fun x hx=>by
      rcases List.mem_append.1 hx with hx|hx
      . exact h1 x hx
      . simp only[List.mem_singleton]at hx;rw[hx];exact hn,by simp[Mc,h2,Lib.encode_decode _ hne hd]⟩
     rw[List.length_append,List.length_take]at k2;exact⟨k1,by omega⟩
theorem Kz {s:List UInt8} {p q:Nat} {a:List UInt8} (h:Cv s p=.ok a q):Lib.validD a=true/\a.length+p+2<=q:=by
 unfold Cv at h
 split at h
 . obtain⟨⟨rs,h1,h2⟩,h3⟩:=Vr _ _ _ _ _ _ h ⟨[],fun r hr=>(by cases hr),rfl⟩;rw[h2];refine⟨T1 h1, ?_⟩;rw[<-h2];simp only[List.length_nil]at h3;omega
 . cases h
theorem Xr {s:List UInt8} {p q:Nat} {n:Int} (h:Du s p=.ok n q): -9223372036854775808<=n/\n<=9223372036854775807:=by
 unfold Du No Et at h
 repeat' split at h
 all_goals first|(simp only[Rd.ok.injEq]at h;omega)|cases h
theorem S9: ∀(a b:List Val),Bg (a++b)=Bg a+Bg b
 | [],b=>by simp[Bg]
 |x::r,b=>by simp only[List.cons_append,Bg,S9 r b];omega
theorem Aba: ∀{a b:List Val},Qq a->Qq b->Qq (a++b)
 | [],_,_,h=>h
 |x::r,b,h,h'=>by
  simp only[List.cons_append,Qq]at h ⊢;exact⟨h.1,Aba h.2 h'⟩
theorem Aai (l:List (ByteArray×Val)):Ae (Ig l)<=Ae l:=by
 unfold Ig
 cases h:B9 l []with
 |none=>simp[Ae]
 |some o=>have:=Ph h;simp only[Ae]at this;simp only[Option.getD_some];omega
theorem Afg {l:List (ByteArray×Val)} (hi:G3 l):G3 (Ig l):=by
 unfold Ig
 cases h:B9 l []with
 |none=>simp[G3]
 |some o=>exact Tn h (by simp[G3]) hi
theorem eb:Gu.size=0:=rfl
def Rd.sized (base p:Nat) (C:Nat):Rd Val->Prop
 | .ok v q=>v.bulk+base<=C+6*(q - p)/\p<q/\Kd v
 | .bad _ _=>True
theorem Tx: ∀(f:Nat),(∀s p d,p<=s.length->(Bi f s p d).sized 0 p 0)/\(∀s p d,p<s.length->(G4 f s p d).sized 0 p 0)/\(∀s p d,p<s.length->(Ls f s p d).sized 0 p 0)/\
 (∀s p d acc,p<=s.length->Qq acc->(Es f s p d acc).sized 0 p (6+Bg acc))/\(∀s p d acc,p<=s.length->G3 acc->(Cu f s p d acc).sized 0 p (6+Ae acc))/\
 (∀s p d acc k,p<=s.length->G3 acc->(Ez f s p d acc k).sized 0 p (7+Ae acc+k.size)):=by
 intro f
 induction f with
 |zero=>
  refine⟨fun s p d h=> ?_,fun s p d h=> ?_,fun s p d h=> ?_,fun s p d acc h _=> ?_,fun s p d acc h _=> ?_,fun s p d acc k h _=> ?_⟩
  . unfold Bi;trivial
  . unfold G4;trivial
  . unfold Ls;trivial
  . unfold Es;trivial
  . unfold Cu;trivial
  . unfold Ez;trivial
 |succ f ih=>
  obtain⟨iv,il,io,ii,im,ik⟩:=ih;have win:=Dn f;have lift: ∀{p p' q:Nat} {r:Rd Val},p<=p'->r.sized 0 p' 0->r.sized 0 p 0:=by
   intro p p' q r hp hr
   cases r with
   |ok v q=>exact⟨by have:=hr.1;omega,by have:=hr.2.1;omega,hr.2.2⟩
   |bad e q=>trivial
  refine⟨fun s p d h=> ?_,fun s p d h=> ?_,fun s p d h=> ?_,fun s p d acc h hi=> ?_,fun s p d acc h hi=> ?_,fun s p d acc k h hi=> ?_⟩
  . unfold Bi;have hp:=En h;have hg:=Bs s p
    cases hc:s[Al s p]? with
    |none=>trivial
    |some c=>
     have hl:=Ct hc;simp only
     split
     . trivial
     split
     . trivial
     split
     . exact lift (q:=0) hg (il s _ d hl)
     split
     . exact lift (q:=0) hg (io s _ d hl)
     split
     . cases hu:Cv s (Al s p)with
       |bad e q=>trivial
       |ok a q=>
        obtain⟨_,h2⟩:=Kz hu;refine⟨?_,by omega,by simp[Ac8,Kd,Qq,G3]⟩;simp only[Ac8,Val.bulk,Bg,Ae,Ln];omega
     split
     . unfold C2
       split
       . refine⟨?_,by simp only[List.length_cons,List.length_nil];omega,by simp[Nn,Kd,Qq,G3]⟩;simp only[Nn,Val.bulk,Bg,Ae,eb,List.length_cons,List.length_nil];omega
       . trivial
     split
     . unfold C2
       split
       . refine⟨?_,by simp only[List.length_cons,List.length_nil];omega,by simp[Ir,Kd,Qq,G3]⟩;simp only[Ir,Val.bulk,Bg,Ae,eb,List.length_cons,List.length_nil];omega
       . trivial
     split
     . unfold C2
       split
       . refine⟨?_,by simp only[List.length_cons,List.length_nil];omega,by simp[Ir,Kd,Qq,G3]⟩;simp only[Ir,Val.bulk,Bg,Ae,eb,List.length_cons,List.length_nil];omega
       . trivial
     . have hw:=J7 hl
       cases hu:Du s (Al s p)with
       |bad e q=>trivial
       |ok n q=>
        have hn:=Xr hu;rw[hu]at hw;have:=hw.1;refine⟨?_,by omega,by simp only[Qc,Kd,Qq,G3];exact⟨hn,trivial,trivial⟩⟩;simp only[Qc,Val.bulk,Bg,Ae,eb];omega
  . unfold G4;have hp:=En (s:=s) (p:=p+1) h;have hg:=Bs s (p+1)
    split
    . refine⟨?_,by omega,by simp[Sh,Kd,Qq,G3]⟩;simp only[Sh,Val.bulk,Bg,Ae,eb];omega
    . have:=ii s _ d [] hp (by simp[Qq])
      cases hr:Es f s (Al s (p+1)) d []with
      |bad e q=>trivial
      |ok v q=>
       rw[hr]at this;obtain⟨h1,h2,h3⟩:=this;simp only[Bg]at h1;exact⟨by omega,by omega,h3⟩
  . unfold Ls;have hp:=En (s:=s) (p:=p+1) h;have hg:=Bs s (p+1)
    split
    . refine⟨?_,by omega,by simp[Qf,Kd,Qq,G3]⟩;simp only[Qf,Val.bulk,Bg,Ae,eb];omega
    . have:=im s _ d [] hp (by simp[G3])
      cases hr:Cu f s (Al s (p+1)) d []with
      |bad e q=>trivial
      |ok v q=>
       rw[hr]at this;obtain⟨h1,h2,h3⟩:=this;simp only[Ae]at h1;exact⟨by omega,by omega,h3⟩
  . unfold Es;have hv:=iv s p (d+1) h;have hw:=win.1 s p (d+1) h
    cases hr:Bi f s p (d+1)with
    |bad e q=>trivial
    |ok v q=>
     rw[hr]at hv hw;obtain⟨h1,h2⟩:=hw;obtain⟨k1,_,k3⟩:=hv;have hg:=Bs s q;have e1:Bg (acc++ [v])=Bg acc+v.bulk:=by rw[S9];simp[Bg]
     have e2:Qq (acc++ [v]):=Aba hi ⟨k3,trivial⟩;simp only
     split
     . rename_i hc;have:=ii s _ d _ (Ct hc) e2
       cases hr2:Es f s (Al s q+1) d (acc++ [v])with
       |bad e q=>trivial
       |ok v' q'=>
        rw[hr2]at this;obtain⟨a1,a2,a3⟩:=this;exact⟨by omega,by omega,a3⟩
     split
     . refine⟨?_,by omega, ?_⟩
       . simp only[Sh,Val.bulk,Ae,eb];omega
       . simp only[Sh,Kd,G3];exact⟨by omega,e2,trivial⟩
     . trivial
  . unfold Cu;have hp0:=En h;have hg0:=Bs s p;have hw:=D8 hp0
    cases hr:Cv s (Al s p)with
    |bad e q=>trivial
    |ok k q=>
     rw[hr]at hw;have hu:=(Kz hr).2;have hg:=Bs s q;simp only
     split
     . trivial
     split
     . rename_i hc;have:=ik s _ d acc ⟨k.toArray⟩ (Ct hc) hi
       cases hr2:Ez f s (Al s q+1) d acc ⟨k.toArray⟩with
       |bad e q=>trivial
       |ok v' q'=>
        rw[hr2]at this;obtain⟨a1,a2,a3⟩:=this;rw[Ln]at a1;exact⟨by omega,by omega,a3⟩
     . trivial
  . unfold Ez;have hv:=iv s p (d+1) h;have hw:=win.1 s p (d+1) h
    cases hr:Bi f s p (d+1)with
    |bad e q=>trivial
    |ok v q=>
     rw[hr]at hv hw;obtain⟨h1,h2⟩:=hw;obtain⟨k1,_,k3⟩:=hv;have hg:=Bs s q;have e1:Ae (acc++ [(k,v)])=Ae acc+(1+k.size+v.bulk):=by rw[C5];simp[Ae,Gm]
     have e2:G3 (acc++ [(k,v)]):=Qr hi ⟨k3,trivial⟩;simp only
     split
     . rename_i hc;have:=im s _ d _ (Ct hc) e2
       cases hr2:Cu f s (Al s q+1) d (acc++ [(k,v)])with
       |bad e q=>trivial
       |ok v' q'=>
        rw[hr2]at this;obtain⟨a1,a2,a3⟩:=this;exact⟨by omega,by omega,a3⟩
     split
     . have e3:=Aai (acc++ [(k,v)]);refine⟨?_,by omega, ?_⟩
       . simp only[Qf,Val.bulk,Bg,eb];omega
       . simp only[Qf,Kd,Qq];exact⟨by omega,trivial,Afg e2⟩
     . trivial
theorem le_of_lt {a b:ByteArray} (h:C8 b a=true):leB a b=false:=by
 unfold leB;have h1:=Ro h;unfold C8 at h1;rw[h1,Bool.false_or]
 cases e:(a.toList==b.toList)with
 |false=>rfl
 |true=>
  have:a=b:=toList_inj (by simpa using e);subst this;rw[Jz]at h;cases h
theorem Rp: ∀{l:List (ByteArray×Val)} {last:Option ByteArray} {d:Int},B8 l->(∀m ∈ l,A8 m.1=true/\Aw m.2 d=0)->(∀q,last=some q-> ∀m ∈ l,C8 q m.1=true)->Do l last d=0
 | [],_,_,_,_,_=>by simp[Do]
 |(k,v)::r,last,d,ha,hm,hq=>by
  obtain⟨h1,h2⟩:=List.pairwise_cons.1 ha;obtain⟨m1,m2⟩:=hm (k,v) (by simp);have hP:Ol (k,v) last d=0:=by
   simp only[Ol];rw[if_pos m1]
   cases last with
   |none=>exact m2
   |some q=>
    have:=le_of_lt (hq q rfl (k,v) (by simp));simp only at this ⊢;rw[this,if_neg (by decide)];exact m2
  simp only[Do];rw[if_pos hP];refine Rp h2 (fun m hm'=>hm m (by simp[hm'])) (fun q hq' m hm'=> ?_);obtain rfl:=Option.some.inj hq';exact h1 m hm'
theorem Abd: ∀{l:List Val} {d:Int},(∀v ∈ l,Aw v d=0)->Dj l d=0
 | [],_,_=>by simp[Dj]
 |v::r,d,h=>by
  simp only[Dj];rw[if_pos (h v (by simp))];exact Abd fun x hx=>h x (by simp[hx])
theorem Aee {k:ByteArray} {l:List (ByteArray×Val)}:Gx k l=true ↔ k ∈ l.map (·.1):=by
 unfold Gx;simp[List.any_eq_true]
theorem Mn {l:List (ByteArray×Val)} (h:(l.map (·.1)).Nodup):B9 l []=some (Ig l)/\B8 (Ig l)/\(Ig l).Perm l:=by
 unfold Ig
 cases e:B9 l []with
 |none=>exact absurd (by rw[List.append_nil];exact h) (Pi e)
 |some o=>
  obtain⟨h1,h2⟩:=Pj e List.Pairwise.nil;rw[List.append_nil]at h2;exact⟨rfl,h1,h2⟩
theorem Z3 {l:List (ByteArray×Val)} {k:ByteArray} {v:Val} (h:(l.map (·.1)).Nodup) (hk:Gx k l=false):((l++ [(k,v)]).map (·.1)).Nodup:=by
 rw[List.map_append,List.nodup_append];refine⟨h,by simp,fun a ha b hb=> ?_⟩;simp only[List.map_cons,List.map_nil,List.mem_singleton]at hb;subst hb;intro e;subst e;rw[Aee.2 ha]at hk;cases hk
theorem Aey {d:Int} (h:d<=64):Aw Nn d=0:=by
 simp only[Nn,Aw,List.length_nil];rw[if_neg (by decide+kernel),if_neg (by omega),if_pos (by decide+kernel)];simp[Dj,Do]
theorem Xk (b:Bool) {d:Int} (h:d<=64):Aw (Ir b) d=0:=by
 simp only[Ir,Aw,List.length_nil];rw[if_neg (by cases b<;>decide+kernel),if_neg (by omega),if_pos (by decide+kernel)];simp[Dj,Do]
theorem Af9 (n:Int) {d:Int} (h:d<=64):Aw (Qc n) d=0:=by
 simp only[Qc,Aw,List.length_nil];rw[if_neg (by simp[Fl,Gu]),if_neg (by omega),if_pos (by decide+kernel)];simp[Dj,Do]
theorem Aga {a:List UInt8} (ha:Lib.validD a=true) {d:Int} (h:d<=64):Aw (Ac8 a) d=0:=by
 simp only[Ac8,Aw,List.length_nil];rw[if_neg (by simp[Fl]),if_neg (by omega),if_pos (by exact ha)];simp[Dj,Do]
theorem Abe {l:List Val} {d:Int} (h:d<=64) (hl: ∀v ∈ l,Aw v (d+1)=0):Aw (Sh l) d=0:=by
 simp only[Sh,Aw,List.length_nil];rw[if_neg (by simp[Fl,Gu]),if_neg (by omega),if_pos (by decide+kernel),if_pos (Abd hl)];simp[Do]
theorem Xm {o:List (ByteArray×Val)} {d:Int} (h:d<=64) (ha:B8 o) (ho: ∀m ∈ o,A8 m.1=true/\Aw m.2 (d+1)=0):Aw (Qf o) d=0:=by
 simp only[Qf,Aw,List.length_nil];rw[if_neg (by simp[Fl,Gu]),if_neg (by omega),if_pos (by decide+kernel),if_pos (by simp[Dj])];exact Rp ha ho (fun q hq=>by cases hq)
def Rd.mayIt (d:Int):Rd Val->Prop
 | .ok v _=>Aw v d=0
 | .bad _ _=>True
theorem Af8: ∀(f:Nat),(∀s p d,(Bi f s p d).mayIt d)/\(∀s p d,d<=64->(G4 f s p d).mayIt d)/\(∀s p d,d<=64->(Ls f s p d).mayIt d)/\
 (∀s p d acc,d<=64->(∀v ∈ acc,Aw v (d+1)=0)->(Es f s p d acc).mayIt d)/\
 (∀s p d acc,d<=64->(∀m ∈ acc,A8 m.1=true/\Aw m.2 (d+1)=0)->(acc.map (·.1)).Nodup->(Cu f s p d acc).mayIt d)/\
 (∀s p d acc k,d<=64->(∀m ∈ acc,A8 m.1=true/\Aw m.2 (d+1)=0)->(acc.map (·.1)).Nodup->Gx k acc=false->A8 k=true->(Ez f s p d acc k).mayIt d):=by
 intro f
 induction f with
 |zero=>
  refine⟨fun s p d=> ?_,fun s p d _=> ?_,fun s p d _=> ?_,fun s p d acc _ _=> ?_,fun s p d acc _ _ _=> ?_,fun s p d acc k _ _ _ _ _=> ?_⟩
  . unfold Bi;trivial
  . unfold G4;trivial
  . unfold Ls;trivial
  . unfold Es;trivial
  . unfold Cu;trivial
  . unfold Ez;trivial
 |succ f ih=>
  obtain⟨iv,il,io,ii,im,ik⟩:=ih;refine⟨fun s p d=> ?_,fun s p d h=> ?_,fun s p d h=> ?_,fun s p d acc h hi=> ?_,fun s p d acc h hi hn=> ?_,fun s p d acc k h hi hn hk hv=> ?_⟩
  . unfold Bi
    cases hc:s[Al s p]? with
    |none=>trivial
    |some c=>
     simp only
     split
     . trivial
     split
     . trivial
     rename_i hd;have hd':d<=64:=by omega
     split
     . exact il s _ d hd'
     split
     . exact io s _ d hd'
     split
     . cases hu:Cv s (Al s p)with
       |bad e q=>trivial
       |ok a q=>exact Aga (Kz hu).1 hd'
     split
     . unfold C2
       split
       . exact Aey hd'
       . trivial
     split
     . unfold C2
       split
       . exact Xk true hd'
       . trivial
     split
     . unfold C2
       split
       . exact Xk false hd'
       . trivial
     . cases hu:Du s (Al s p)with
       |bad e q=>trivial
       |ok n q=>exact Af9 n hd'
  . unfold G4
    split
    . exact Abe h (fun v hv=>by cases hv)
    . exact ii s _ d [] h (fun v hv=>by cases hv)
  . unfold Ls
    split
    . exact Xm h List.Pairwise.nil (fun v hv=>by cases hv)
    . exact im s _ d [] h (fun v hv=>by cases hv) (by simp)
  . unfold Es;have hv:=iv s p (d+1)
    cases hr:Bi f s p (d+1)with
    |bad e q=>trivial
    |ok v q=>
     rw[hr]at hv;have e2: ∀x ∈ acc++ [v],Aw x (d+1)=0:=by
      intro x hx;rcases List.mem_append.1 hx with hx|hx
      . exact hi x hx
      . simp only[List.mem_singleton]at hx;rw[hx];exact hv
     simp only
     split
     . exact ii s _ d _ h e2
     split
     . exact Abe h e2
     . trivial
  . unfold Cu
    cases hr:Cv s (Al s p)with
    |bad e q=>trivial
    |ok k q=>
     simp only
     split
     . trivial
     rename_i hk
     split
     . exact ik s _ d acc ⟨k.toArray⟩ h hi hn (by simpa using hk) (Kz hr).1
     . trivial
  . unfold Ez;have hm:=iv s p (d+1)
    cases hr:Bi f s p (d+1)with
    |bad e q=>trivial
    |ok v q=>
     rw[hr]at hm;have e2: ∀x ∈ acc++ [(k,v)],A8 x.1=true/\Aw x.2 (d+1)=0:=by
      intro x hx;rcases List.mem_append.1 hx with hx|hx
      . exact hi x hx
      . simp only[List.mem_singleton]at hx;rw[hx];exact⟨hv,hm⟩
     have e3:=Z3 (v:=v) hn hk;simp only
     split
     . exact im s _ d _ h e2 e3
     split
     . obtain⟨_,s2,s3⟩:=Mn e3;exact Xm h s2 (fun m hm=>e2 m (s3.mem_iff.1 hm))
     . trivial
theorem Adf {f:Nat} {s:List UInt8} {p q:Nat} {d:Int} {v:Val} (h:Bi f s p d=.ok v q):Aw v d=0:=by
 have:=(Af8 f).1 s p d;rw[h]at this;exact this
theorem Jd {s:List UInt8} {v:Val} {q:Nat} (h:Ej s=.ok v q):Aw v 1=0/\q=s.length/\v.bulk<=6*s.length/\Kd v:=by
 unfold Ej at h
 cases hr:Bi (4*s.length+4) s 0 1 with
 |bad e q=>rw[hr]at h;cases h
 |ok v' q'=>
  rw[hr]at h;simp only at h;have hw:=(Dn (4*s.length+4)).1 s 0 1 (Nat.zero_le _);have hs:=(Tx (4*s.length+4)).1 s 0 1 (Nat.zero_le _);rw[hr]at hw hs;have h2:=En hw.2
  split at h
  . cases h
  . simp only[Rd.ok.injEq]at h;obtain⟨rfl,rfl⟩:=h;have h3:=hs.1;have h4:=hw.2;exact⟨Adf hr,by omega,by omega,hs.2.2⟩
def Aa2 {α β:Type} (P:Program) (gf:Nat) (lb:Array Value) (encs:α->β->Array Value) (E:α->β->(Nat->Prop)->World->Prop) (K0:Nat->Prop) (xs:List α) (N:World->Prop):Prop:=
 ∀(n l:Nat) (J:List α->(Nat->Prop)->(Nat->Prop)->World->Prop) (Jx:World->Prop) (W:World),
  (∀s T K A T' K' B,J s T K A->KB T A B->(∀i,i<A.heap.size->(T' i ↔ T i)/\(K' i ↔ K i))->(∀i,K' i->i<B.heap.size)->J s T' K' B)->
  (∀pre x rest q T K A,xs=pre++x::rest->J pre T K A->E x q (fun i=>K i/\ ¬T i) A->(∀i,T i->K i)->(∀i,K i->i<A.heap.size)->YieldAt Fence.wide n P l (encs x q) A fun e B=>(e=.returned (.bool true)/\J (pre++ [x]) T K B/\KB (fun i=> ¬K i) A B)\/(e=.returned (.bool false)/\Jx B/\KB (fun i=> ¬K i) A B))->(∀A B,Jx A->Below A.heap.size A B->Jx B)->
  N W->J [] (fun _=>False) K0 W->CallsIn Fence.wide (n+1) P gf (#[.func (.yield l) #[] #[]]++lb) W fun e B=>(∃v,e=.returned v)/\((∃T K,J xs T K B)\/Jx B)
theorem Aat {α β:Type} {P:Program} {g:Operand} {ps:Array Tmp} {assign body:Code} {Q:Exit->Act->World->Prop} {a:Act} {w:World} {n:Nat}
 {gf:Nat} {lb:Array Value} (hg:a.eval g=.func (.func gf) #[] lb) (eg: ∀args w,(callFunc gf args).run P w=.ok (.enter gf args) w)
 {encs:α->β->Array Value} {E:α->β->(Nat->Prop)->World->Prop} {K0:Nat->Prop} {xs:List α} {N:World->Prop} (hit:Aa2 P gf lb encs E K0 xs N) (hps: ∀x q,(encs x q).size=ps.size)
 (hEp: ∀x q D A k o',E x q D A-> ¬D k->E x q D (A.putObj k o')) (hK0: ∀i,K0 i->i<w.heap.size)
 (I:List α->(Nat->Prop)->(Nat->Prop)->World->Prop) (Ix:World->Prop) (hXn: ∀A B,Ix A->Below A.heap.size A B->Ix B)
 (hXp: ∀A k o o',Ix A->A.heap[k]? =some o->o.isCells=false->w.heap.size<=k->Ix (A.putObj k o'))
 (hIn: ∀s T K A T' K' B,I s T K A->KB T A B->(∀i,i<A.heap.size->(T' i ↔ T i)/\(K' i ↔ K i))->(∀i,K' i->i<B.heap.size)->I s T' K' B)
 (hIp: ∀s T K A k o o',I s T K A->A.heap[k]? =some o->o.isCells=false-> ¬K k->w.heap.size<=k->I s T K (A.putObj k o'))
 (hEb: ∀x q D A B,E x q D A->Below A.heap.size A B->E x q D B) (hN: ∀W,Below w.heap.size w W->N W) (h0:I [] (fun _=>False) K0 w) (RB:α->β->Act->World->Prop)
 (hRp: ∀x q a' A k o o',RB x q a' A->A.heap[k]? =some o->o.isCells=false->RB x q a' (A.putObj k o'))
 (hassign: ∀(l:Nat) (x:α) (q:β) (D:Nat->Prop) (W:World) (K:Act->World->Prop),w.heap.size+1<W.heap.size->E x q D W->(∀a' W',Below W.heap.size W W'->RB x q a' W'->K a' W')->
   assign.wpIn (Fence.wide.inRound l) n P (Exit.then K (fun _ _ _=>False)) {tmps:=(ps.zip (encs x q)).foldl (fun t (p,v)=>t.setIfInBounds p v) a.tmps,defers:= []} W)
 (hbody: ∀(l:Nat) (pre:List α) (x:α) (rest:List α) (q:β) (T K:Nat->Prop) (a':Act) (W:World),RB x q a' W->xs=pre++x::rest->I pre T K W->E x q (fun i=>K i/\ ¬T i) W->(∀i,T i->K i)->(∀i,K i->i<W.heap.size)->
   ¬K w.heap.size-> ¬K (w.heap.size+1)->(∃ds,W.heap[w.heap.size]? =some (.deferred ds))->(∃r,W.heap[w.heap.size+1]? =some (.loop r))->
   body.wpIn (Fence.wide.inRound l) n P (Le (fun B=>I (pre++ [x]) T K B/\KB (fun i=> ¬K i) W B) (fun B=>Ix B/\KB (fun i=> ¬K i) W B) w.heap.size W) a' W)
 (hstop: ∀(W:World),Ix W->W.heap[w.heap.size]? =some (.deferred (some []))->Code.ret.wpIn Fence.wide (n+1+1) P Q {a with defers:={target:=.collected w.heap.size,args:= #[]}::a.defers} W)
 (hdone: ∀(T K:Nat->Prop) (W:World),I xs T K W-> ¬K w.heap.size->W.heap[w.heap.size]? =some (.deferred (some []))->Q .normal {a with defers:={target:=.collected w.heap.size,args:= #[]}::a.defers} W):
 (Code.rangeFunc g ps assign body).wpIn Fence.wide (n+1+1) P Q a w:=by
 refine wpIn_rangeFunc ?_;intro fn hfn;have hro:Fence.wide.round=none:=rfl;rw[hro];obtain⟨rec,hrec⟩: ∃rec:LoopState->Option Code->Loop,rec=fun st pe=>{state:=st,pending:=pe,fn,tmps:=a.tmps,params:=ps,assign,body,defers:=w.heap.size}:=⟨_,rfl⟩;obtain⟨W1,hW1⟩: ∃W1,(w.alloc (.deferred (some []))).alloc (.loop (rec .ready none))=W1:=⟨_,rfl⟩;have hL1:W1.heap[w.heap.size+1]? =some (.loop (rec .ready none)):=by
  rw[<-hW1];have:=World.alloc_heap_new (w.alloc (.deferred (some []))) (.loop (rec .ready none));rwa [World.size_alloc]at this
 have hK1:W1.heap[w.heap.size]? =some (.deferred (some [])):=by
  rw[<-hW1];exact(Below.heap_alloc _ _ _ (by simp)).trans (World.alloc_heap_new w _)
 have hbW:Below w.heap.size w W1:=hW1▸((Below.refl _ w).alloc (Nat.le_refl _) _).alloc (by simp) _;have hI1:I [] (fun _=>False) K0 W1:=hIn _ _ _ _ _ _ _ h0 (KB.of_below hbW) (fun _ _=>⟨Iff.rfl,Iff.rfl⟩) fun i hi=>Nat.lt_of_lt_of_le (hK0 i hi) hbW.size;refine⟨w.heap.size+1, [{target:=.collected w.heap.size,args:= #[]}],W1,{target:=.fn (.func gf) lb,args:= #[.func (.yield (w.heap.size+1)) #[] #[]]},W1,gf,
  #[.func (.yield (w.heap.size+1)) #[] #[]]++lb,W1, ?_, ?_, ?_, ?_,fun h=>by simp[Fence.wide]at h, ?_⟩
 . rw[<-hW1,hrec];exact run_enterLoop_outer _ _ _ _ _
 . simp only[resolve,hg];simp[go_sem]
 . intro f' _;trivial
 . simp[invoke,go_sem,eg]
 . refine(hit n (w.heap.size+1)
    (fun pre T K W=>I pre T K W/\W.heap[w.heap.size+1]? =some (.loop (rec .ready none))/\W.heap[w.heap.size]? =some (.deferred (some []))/\ ¬T w.heap.size/\ ¬T (w.heap.size+1)/\ ¬K w.heap.size/\ ¬K (w.heap.size+1)/\ ∀i,K i->i<W.heap.size)
    (fun W=>Ix W/\W.heap[w.heap.size+1]? =some (.loop (rec .done (some .ret)))/\W.heap[w.heap.size]? =some (.deferred (some [])))
    W1 ?_ ?_ (fun A B hs hb=>⟨hXn A B hs.1 hb,(hb.block _ (Array.getElem?_eq_some_iff.1 hs.2.1).1).trans hs.2.1,(hb.block _ (Array.getElem?_eq_some_iff.1 hs.2.2).1).trans hs.2.2⟩) (hN _ hbW) ⟨hI1,hL1,hK1,fun h=>h,fun h=>h,fun h=>by have:=hK0 _ h;omega,fun h=>by have:=hK0 _ h;omega,fun i hi=>Nat.lt_of_lt_of_le (hK0 i hi) hbW.size⟩).mono ?_
   . rintro s T K A T' K' B ⟨j1,j2,j3,j4,j5,j6,j7,j8⟩ hb hTK hKB;have z2:=(Array.getElem?_eq_some_iff.1 j2).1;have z3:=(Array.getElem?_eq_some_iff.1 j3).1;exact⟨hIn _ _ _ _ _ _ _ j1 hb hTK hKB,(hb.block _ z2 j5).trans j2,(hb.block _ z3 j4).trans j3,fun h=>j4 ((hTK _ z3).1.1 h),fun h=>j5 ((hTK _ z2).1.1 h),fun h=>j6 ((hTK _ z3).2.1 h),fun h=>j7 ((hTK _ z2).2.1 h),hKB⟩
   ·
    rintro pre x rest q T K W hx ⟨hi,hl,hk,j4,j5,j6,j7,j8⟩ hE hTK _;have hlt:w.heap.size+1<W.heap.size:=(Array.getElem?_eq_some_iff.1 hl).1;have hy:=run_yield (P:=P) (args:=encs x q) hl (by rw[hrec];exact hps x q);rw[hrec]at hy;refine⟨fn,_,assign,body,hy,roundIn_of_wpIn trivial (hassign _ x q _ W _ hlt hE fun a' W' hbW hRB=>⟨_,run_beginRound ((hbW.block _ hlt).trans hl) (by rw[hrec]), ?_⟩)⟩;have hlt':=Nat.lt_of_lt_of_le hlt hbW.size;have hlW:=(hbW.block _ hlt).trans hl;have hkW:=(hbW.block _ (by omega)).trans hk;have hiW:=hIn _ _ _ _ T K _ hi (KB.of_below hbW) (fun _ _=>⟨Iff.rfl,Iff.rfl⟩) fun i h=>Nat.lt_of_lt_of_le (j8 i h) hbW.size;have hEW:=hEb _ _ _ _ _ hE hbW;have hl2:(W'.putObj (w.heap.size+1) (.loop {rec .ready none with state:=.busy})).heap[w.heap.size+1]? =some (.loop {rec .ready none with state:=.busy}):=World.putObj_heap_same hlt';have hk2:(W'.putObj (w.heap.size+1) (.loop {rec .ready none with state:=.busy})).heap[w.heap.size]? =some (.deferred (some [])):=(World.putObj_heap_other (by omega)).trans hkW;have hkb1:=(KB.of_below (S:=fun i=> ¬K i) hbW).trans (KB.put (S:=fun i=> ¬K i) W' (k:=w.heap.size+1) j7 (.loop {rec .ready none with state:=.busy})) fun _ _ h=>h;refine wpIn_mono (hbody _ pre x rest q T K a' _ (hRp _ _ _ _ _ _ _ hRB hlW rfl) hx (hIp _ _ _ _ _ _ _ hiW hlW rfl j7 (by omega)) (hEp _ _ _ _ _ _ hEW fun h=>j7 h.1) hTK (fun i hi=>Nat.lt_of_lt_of_le (j8 i hi) hkb1.size) j6 j7 ⟨_,hk2⟩ ⟨_,hl2⟩) ?_;rintro e a3 W3 hp
    cases e with
    |normal=>
     obtain⟨h1,h2,hi3,hkb2⟩:=hp;have hl3:=h2.trans hl2;have hk3:=h1.trans hk2;have hr:=run_endRound (P:=P) none hl3;rw[hrec]at hr;have hkb3:=(hkb1.trans hkb2 fun _ _ h=>h).trans (KB.put (S:=fun i=> ¬K i) W3 (k:=w.heap.size+1) j7 (.loop {rec .ready none with state:=.ready})) fun _ _ h=>h;refine⟨_,_,hr,.inl ⟨rfl,⟨hIp _ _ _ _ _ _ _ hi3 hl3 rfl j7 (by omega), ?_, ?_,j4,j5,j6,j7,fun i hi=>Nat.lt_of_lt_of_le (j8 i hi) ?_⟩, ?_⟩⟩
     . rw[World.putObj_heap_same (Array.getElem?_eq_some_iff.1 hl3).1,hrec];rfl
     . exact(World.putObj_heap_other (by omega)).trans hk3
     . rw[hrec]at hkb3;exact hkb3.size
     . rw[hrec]at hkb3;exact hkb3
    |ret=>
     obtain⟨h1,h2,hi3,hkb2⟩:=hp;have hl3:=h2.trans hl2;have hk3:=h1.trans hk2;have hr:=run_endRound (P:=P) (some .ret) hl3;rw[hrec]at hr;have hkb3:=(hkb1.trans hkb2 fun _ _ h=>h).trans (KB.put (S:=fun i=> ¬K i) W3 (k:=w.heap.size+1) j7 (.loop {rec .done (some .ret)with state:=.done})) fun _ _ h=>h;refine⟨_,_,hr,.inr ⟨rfl,⟨hXp _ _ _ _ hi3 hl3 rfl (by omega), ?_, ?_⟩, ?_⟩⟩
     . rw[World.putObj_heap_same (Array.getElem?_eq_some_iff.1 hl3).1,hrec];rfl
     . exact(World.putObj_heap_other (by omega)).trans hk3
     . rw[hrec]at hkb3;exact hkb3
    |exit id=>exact hp.elim
    |goto t=>exact hp.elim
    |panic ch=>exact hp.elim
    |outgrown=>exact hp.elim
   ·
    rintro e W2 ⟨⟨v,rfl⟩,⟨T,K,hi,hl,hk,_,_,j6,j7,_⟩|⟨hi,hl,hk⟩⟩
    . exact⟨none,_,by have:=run_endLoop (P:=P) hl (by rw[hrec];simp);rw[hrec]at this;exact this,hdone T K _ (hIp _ _ _ _ _ _ _ hi hl rfl j7 (by omega)) j6 ((World.putObj_heap_other (by omega)).trans hk)⟩
    . exact⟨some .ret,_,by have:=run_endLoop (P:=P) hl (by rw[hrec];simp);rw[hrec]at this;exact this,hstop _ (hXp _ _ _ _ hi hl rfl (by omega)) ((World.putObj_heap_other (by omega)).trans hk)⟩
end Go.Proofs.YtkmcjfkokoidcaaGreatDoor
