/- Parts: utf: paired, escape, runesByLetters, plain. Condition: a text of at most 10^9 bytes. -/
import Derived.Test.YtobmaegpfbheoaaGreatDoorKMo11
set_option maxHeartbeats 20000000
set_option maxRecDepth 100000
namespace Go.Proofs.YtobmaegpfbheoaaGreatDoor
open Go.RowKit
theorem Ahy (r:Int):(Lib.encodeRune r).length<=4:=by
 have:=(Lib.encodeRuneZ_length r).2;unfold Lib.encodeRune
 rwa [List.length_map]
theorem Af0 {r:Int} (h0:0<=r) (h:r<128):(Lib.encodeRune r).length=1:=by
 unfold Lib.encodeRune;rw[List.length_map,Lib.encodeRuneZ_one h0 (by omega)];rfl
theorem Yc {l:List UInt8} {r n:Nat} (h:Lm l=.ok r n):(Lib.encodeRune (r:Int)).length<=n:=by
 have h2:=(Rn h).2.2.1;have h4:=Ahy (r:Int);by_cases hn:4<=n
 . omega
 have hr:r<128\/6<=n:=by
  unfold Lm at h
  cases hu:Ha l with
  |some u=>
   rw[hu]at h;simp only[Ju]at h
   split at h
   . simp only[Rd.ok.injEq]at h;omega
   split at h
   . cases h
   cases hm:Ha (l.drop 6)with
   |none=>rw[hm]at h;cases h
   |some m=>
    rw[hm]at h;simp only at h
    split at h
    . cases h
    . simp only[Rd.ok.injEq]at h;omega
  |none=>
   rw[hu]at h;simp only[Wk]at h
   cases hc:l[1]? with
   |none=>rw[hc]at h;cases h
   |some c=>
    rw[hc]at h;simp only at h
    cases he:Me c with
    |none=>rw[he]at h;cases h
    |some x=>
     rw[he]at h;simp only[Rd.ok.injEq]at h;have:x<=92:=by
      unfold Me at he
      repeat' split at he
      all_goals first|(simp at he;omega)|cases he
     omega
 rcases hr with hr|hr
 . have:=Af0 (r:=(r:Int)) (by omega) (by omega);omega
 . omega
def N6 (rs:List Nat):List UInt8:=rs.flatMap fun(r:Nat)=>Lib.encodeRune (r:Int)
theorem Vl: ∀{rs:List Nat},(∀r ∈ rs,Fq r)->Lib.validD (N6 rs)=true
 | [],_=>rfl
 |r::rs,h=>by
  have e:N6 (r::rs)=Lib.encodeRune (r:Int)++N6 rs:=rfl;rw[e,Ach (h r (by simp))];exact Vl fun x hx=>h x (by simp[hx])
theorem R3 {l:List UInt8} (hl:l≠ []) (h: ¬((Lib.decodeL l).1=65533/\(Lib.decodeL l).2=1)):Fq (Lib.decodeL l).1:=by
 have h1:=Ow l;rw[N4 l hl,if_neg h]at h1;have:=Lib.decodeL_width l;unfold Fq;simp only at h1;omega
theorem Xg: ∀(f:Nat) (s:List UInt8) (i:Nat) (out a:List UInt8) (q:Nat),J3 f s i out=.ok a q->(∃rs,(∀r ∈ rs,Fq r)/\out=N6 rs)->(∃rs,(∀r ∈ rs,Fq r)/\a=N6 rs)/\a.length+i+1<=out.length+q
 |0,s,i,out,a,q,h,_=>by unfold J3 at h;cases h
 |f+1,s,i,out,a,q,h,ho=>by
  unfold J3 at h
  cases hc:s[i]? with
  |none=>rw[hc]at h;cases h
  |some c=>
   rw[hc]at h;have hi:=Em hc;have hne:s.drop i≠ []:=by rw[I7 hc];simp
   simp only at h
   split at h
   . simp only[Rd.ok.injEq]at h;obtain⟨rfl,rfl⟩:=h;exact⟨ho,by omega⟩
   split at h
   . cases h
   obtain⟨rs,h1,h2⟩:=ho
   split at h
   . cases he:Lm (s.drop i)with
     |bad e x=>rw[he]at h;cases h
     |ok r n=>
      rw[he]at h;have hok:=Rn he;have hlen:=Yc he;have hn:Fq r:=⟨hok.1,hok.2.1⟩;obtain⟨k1,k2⟩:=Xg f s _ _ _ _ h ⟨rs++ [r],fun x hx=>by
       rcases List.mem_append.1 hx with hx|hx
       . exact h1 x hx
       . simp only[List.mem_singleton]at hx;rw[hx];exact hn,by simp[N6,h2]⟩
      rw[List.length_append]at k2;exact⟨k1,by omega⟩
   split at h
   . cases h
   . rename_i hd;have hn:=R3 hne hd;obtain⟨k1,k2⟩:=Xg f s _ _ _ _ h ⟨rs++ [(Lib.decodeL (s.drop i)).1],fun x hx=>by
      rcases List.mem_append.1 hx with hx|hx
      . exact h1 x hx
      . simp only[List.mem_singleton]at hx;rw[hx];exact hn,by simp[N6,h2,Lib.encode_decode _ hne hd]⟩
     rw[List.length_append,List.length_take]at k2;exact⟨k1,by omega⟩
theorem Pm {s:List UInt8} {p q:Nat} {a:List UInt8} (h:E8 s p=.ok a q):Lib.validD a=true/\a.length+p+2<=q:=by
 unfold E8 at h
 split at h
 . obtain⟨⟨rs,h1,h2⟩,h3⟩:=Xg _ _ _ _ _ _ h ⟨[],fun r hr=>(by cases hr),rfl⟩;rw[h2];refine⟨Vl h1, ?_⟩;rw[<-h2];simp only[List.length_nil]at h3;omega
 . cases h
theorem Y8 {s:List UInt8} {p q:Nat} {n:Int} (h:Gm s p=.ok n q): -9223372036854775808<=n/\n<=9223372036854775807:=by
 unfold Gm Rq Iu at h
 repeat' split at h
 all_goals first|(simp only[Rd.ok.injEq]at h;omega)|cases h
theorem Uk: ∀(a b:List Val),Ba (a++b)=Ba a+Ba b
 | [],b=>by simp[Ba]
 |x::r,b=>by simp only[List.cons_append,Ba,Uk r b];omega
theorem Ac3: ∀{a b:List Val},Lc a->Lc b->Lc (a++b)
 | [],_,_,h=>h
 |x::r,b,h,h'=>by
  simp only[List.cons_append,Lc]at h ⊢;exact⟨h.1,Ac3 h.2 h'⟩
theorem Acd (l:List (ByteArray×Val)):Au (Kn l)<=Au l:=by
 unfold Kn
 cases h:Ez l []with
 |none=>simp[Au]
 |some o=>have:=Qu h;simp only[Au]at this;simp only[Option.getD_some];omega
theorem Ahb {l:List (ByteArray×Val)} (hi:Hh l):Hh (Kn l):=by
 unfold Kn
 cases h:Ez l []with
 |none=>simp[Hh]
 |some o=>exact U5 h (by simp[Hh]) hi
theorem eb:Jo.size=0:=rfl
def Rd.sized (base p:Nat) (C:Nat):Rd Val->Prop
 | .ok v q=>v.bulk+base<=C+6*(q - p)/\p<q/\It v
 | .bad _ _=>True
theorem Aer: ∀(f:Nat),(∀s p d,p<=s.length->(Cf f s p d).sized 0 p 0)/\(∀s p d,p<s.length->(K6 f s p d).sized 0 p 0)/\(∀s p d,p<s.length->(Qb f s p d).sized 0 p 0)/\
 (∀s p d acc,p<=s.length->Lc acc->(Gw f s p d acc).sized 0 p (6+Ba acc))/\(∀s p d acc,p<=s.length->Hh acc->(D7 f s p d acc).sized 0 p (6+Au acc))/\
 (∀s p d acc k,p<=s.length->Hh acc->(Gt f s p d acc k).sized 0 p (7+Au acc+k.size)):=by
 intro f
 induction f with
 |zero=>
  refine⟨fun s p d h=> ?_,fun s p d h=> ?_,fun s p d h=> ?_,fun s p d acc h _=> ?_,fun s p d acc h _=> ?_,fun s p d acc k h _=> ?_⟩
  . unfold Cf;trivial
  . unfold K6;trivial
  . unfold Qb;trivial
  . unfold Gw;trivial
  . unfold D7;trivial
  . unfold Gt;trivial
 |succ f ih=>
  obtain⟨iv,il,io,ii,im,ik⟩:=ih;have win:=I5 f;have lift: ∀{p p' q:Nat} {r:Rd Val},p<=p'->r.sized 0 p' 0->r.sized 0 p 0:=by
   intro p p' q r hp hr
   cases r with
   |ok v q=>exact⟨by have:=hr.1;omega,by have:=hr.2.1;omega,hr.2.2⟩
   |bad e q=>trivial
  refine⟨fun s p d h=> ?_,fun s p d h=> ?_,fun s p d h=> ?_,fun s p d acc h hi=> ?_,fun s p d acc h hi=> ?_,fun s p d acc k h hi=> ?_⟩
  . unfold Cf;have hp:=Ft h;have hg:=C7 s p
    cases hc:s[Ay s p]? with
    |none=>trivial
    |some c=>
     have hl:=Em hc;simp only
     split
     . trivial
     split
     . trivial
     split
     . exact lift (q:=0) hg (il s _ d hl)
     split
     . exact lift (q:=0) hg (io s _ d hl)
     split
     . cases hu:E8 s (Ay s p)with
       |bad e q=>trivial
       |ok a q=>
        obtain⟨_,h2⟩:=Pm hu;refine⟨?_,by omega,by simp[Aev,It,Lc,Hh]⟩;simp only[Aev,Val.bulk,Ba,Au,Nk];omega
     split
     . unfold Er
       split
       . refine⟨?_,by simp only[List.length_cons,List.length_nil];omega,by simp[O9,It,Lc,Hh]⟩;simp only[O9,Val.bulk,Ba,Au,eb,List.length_cons,List.length_nil];omega
       . trivial
     split
     . unfold Er
       split
       . refine⟨?_,by simp only[List.length_cons,List.length_nil];omega,by simp[Ki,It,Lc,Hh]⟩;simp only[Ki,Val.bulk,Ba,Au,eb,List.length_cons,List.length_nil];omega
       . trivial
     split
     . unfold Er
       split
       . refine⟨?_,by simp only[List.length_cons,List.length_nil];omega,by simp[Ki,It,Lc,Hh]⟩;simp only[Ki,Val.bulk,Ba,Au,eb,List.length_cons,List.length_nil];omega
       . trivial
     . have hw:=L2 hl
       cases hu:Gm s (Ay s p)with
       |bad e q=>trivial
       |ok n q=>
        have hn:=Y8 hu;rw[hu]at hw;have:=hw.1;refine⟨?_,by omega,by simp only[Tn,It,Lc,Hh];exact⟨hn,trivial,trivial⟩⟩;simp only[Tn,Val.bulk,Ba,Au,eb];omega
  . unfold K6;have hp:=Ft (s:=s) (p:=p+1) h;have hg:=C7 s (p+1)
    split
    . refine⟨?_,by omega,by simp[Tr,It,Lc,Hh]⟩;simp only[Tr,Val.bulk,Ba,Au,eb];omega
    . have:=ii s _ d [] hp (by simp[Lc])
      cases hr:Gw f s (Ay s (p+1)) d []with
      |bad e q=>trivial
      |ok v q=>
       rw[hr]at this;obtain⟨h1,h2,h3⟩:=this;simp only[Ba]at h1;exact⟨by omega,by omega,h3⟩
  . unfold Qb;have hp:=Ft (s:=s) (p:=p+1) h;have hg:=C7 s (p+1)
    split
    . refine⟨?_,by omega,by simp[Tt,It,Lc,Hh]⟩;simp only[Tt,Val.bulk,Ba,Au,eb];omega
    . have:=im s _ d [] hp (by simp[Hh])
      cases hr:D7 f s (Ay s (p+1)) d []with
      |bad e q=>trivial
      |ok v q=>
       rw[hr]at this;obtain⟨h1,h2,h3⟩:=this;simp only[Au]at h1;exact⟨by omega,by omega,h3⟩
  . unfold Gw;have hv:=iv s p (d+1) h;have hw:=win.1 s p (d+1) h
    cases hr:Cf f s p (d+1)with
    |bad e q=>trivial
    |ok v q=>
     rw[hr]at hv hw;obtain⟨h1,h2⟩:=hw;obtain⟨k1,_,k3⟩:=hv;have hg:=C7 s q;have e1:Ba (acc++ [v])=Ba acc+v.bulk:=by rw[Uk];simp[Ba]
     have e2:Lc (acc++ [v]):=Ac3 hi ⟨k3,trivial⟩;simp only
     split
     . rename_i hc;have:=ii s _ d _ (Em hc) e2
       cases hr2:Gw f s (Ay s q+1) d (acc++ [v])with
       |bad e q=>trivial
       |ok v' q'=>
        rw[hr2]at this;obtain⟨a1,a2,a3⟩:=this;exact⟨by omega,by omega,a3⟩
     split
     . refine⟨?_,by omega, ?_⟩
       . simp only[Tr,Val.bulk,Au,eb];omega
       . simp only[Tr,It,Hh];exact⟨by omega,e2,trivial⟩
     . trivial
  . unfold D7;have hp0:=Ft h;have hg0:=C7 s p;have hw:=Ii hp0
    cases hr:E8 s (Ay s p)with
    |bad e q=>trivial
    |ok k q=>
     rw[hr]at hw;have hu:=(Pm hr).2;have hg:=C7 s q;simp only
     split
     . trivial
     split
     . rename_i hc;have:=ik s _ d acc ⟨k.toArray⟩ (Em hc) hi
       cases hr2:Gt f s (Ay s q+1) d acc ⟨k.toArray⟩with
       |bad e q=>trivial
       |ok v' q'=>
        rw[hr2]at this;obtain⟨a1,a2,a3⟩:=this;rw[Nk]at a1;exact⟨by omega,by omega,a3⟩
     . trivial
  . unfold Gt;have hv:=iv s p (d+1) h;have hw:=win.1 s p (d+1) h
    cases hr:Cf f s p (d+1)with
    |bad e q=>trivial
    |ok v q=>
     rw[hr]at hv hw;obtain⟨h1,h2⟩:=hw;obtain⟨k1,_,k3⟩:=hv;have hg:=C7 s q;have e1:Au (acc++ [(k,v)])=Au acc+(1+k.size+v.bulk):=by rw[M5];simp[Au,Fi]
     have e2:Hh (acc++ [(k,v)]):=Rp hi ⟨k3,trivial⟩;simp only
     split
     . rename_i hc;have:=im s _ d _ (Em hc) e2
       cases hr2:D7 f s (Ay s q+1) d (acc++ [(k,v)])with
       |bad e q=>trivial
       |ok v' q'=>
        rw[hr2]at this;obtain⟨a1,a2,a3⟩:=this;exact⟨by omega,by omega,a3⟩
     split
     . have e3:=Acd (acc++ [(k,v)]);refine⟨?_,by omega, ?_⟩
       . simp only[Tt,Val.bulk,Ba,eb];omega
       . simp only[Tt,It,Lc];exact⟨by omega,trivial,Ahb e2⟩
     . trivial
theorem le_of_lt {a b:ByteArray} (h:Ti b a=true):Th a b=false:=by
 unfold Th;have h1:=Yr h;unfold Ti at h1;rw[h1,Bool.false_or]
 cases e:(a.toList==b.toList)with
 |false=>rfl
 |true=>
  have:a=b:=I0 (by simpa using e);subst this;rw[N9]at h;cases h
theorem Ys: ∀{l:List (ByteArray×Val)} {last:Option ByteArray} {d:Int},Rc l->(∀m ∈ l,Az m.1=true/\Bb m.2 d=0)->(∀q,last=some q-> ∀m ∈ l,Ti q m.1=true)->C5 l last d=0
 | [],_,_,_,_,_=>by simp[C5]
 |(k,v)::r,last,d,ha,hm,hq=>by
  obtain⟨h1,h2⟩:=List.pairwise_cons.1 ha;obtain⟨m1,m2⟩:=hm (k,v) (by simp);have hP:P8 (k,v) last d=0:=by
   simp only[P8];rw[if_pos m1]
   cases last with
   |none=>exact m2
   |some q=>
    have:=le_of_lt (hq q rfl (k,v) (by simp));simp only at this ⊢;rw[this,if_neg (by decide)];exact m2
  simp only[C5];rw[if_pos hP];refine Ys h2 (fun m hm'=>hm m (by simp[hm'])) (fun q hq' m hm'=> ?_);obtain rfl:=Option.some.inj hq';exact h1 m hm'
theorem Ac9: ∀{l:List Val} {d:Int},(∀v ∈ l,Bb v d=0)->Ds l d=0
 | [],_,_=>by simp[Ds]
 |v::r,d,h=>by
  simp only[Ds];rw[if_pos (h v (by simp))];exact Ac9 fun x hx=>h x (by simp[hx])
theorem Af9 {k:ByteArray} {l:List (ByteArray×Val)}:O4 k l=true ↔ k ∈ l.map (·.1):=by
 unfold O4;simp[List.any_eq_true]
theorem S6 {l:List (ByteArray×Val)} (h:(l.map (·.1)).Nodup):Ez l []=some (Kn l)/\Rc (Kn l)/\(Kn l).Perm l:=by
 unfold Kn
 cases e:Ez l []with
 |none=>exact absurd (by rw[List.append_nil];exact h) (Qv e)
 |some o=>
  obtain⟨h1,h2⟩:=Qw e List.Pairwise.nil;rw[List.append_nil]at h2;exact⟨rfl,h1,h2⟩
theorem Abt {l:List (ByteArray×Val)} {k:ByteArray} {v:Val} (h:(l.map (·.1)).Nodup) (hk:O4 k l=false):((l++ [(k,v)]).map (·.1)).Nodup:=by
 rw[List.map_append,List.nodup_append];refine⟨h,by simp,fun a ha b hb=> ?_⟩;simp only[List.map_cons,List.map_nil,List.mem_singleton]at hb;subst hb;intro e;subst e;rw[Af9.2 ha]at hk;cases hk
theorem Ago {d:Int} (h:d<=64):Bb O9 d=0:=by
 simp only[O9,Bb,List.length_nil];rw[if_neg (by decide+kernel),if_neg (by omega),if_pos (by decide+kernel)];simp[Ds,C5]
theorem Yv (b:Bool) {d:Int} (h:d<=64):Bb (Ki b) d=0:=by
 simp only[Ki,Bb,List.length_nil];rw[if_neg (by cases b<;>decide+kernel),if_neg (by omega),if_pos (by decide+kernel)];simp[Ds,C5]
theorem Aim (n:Int) {d:Int} (h:d<=64):Bb (Tn n) d=0:=by
 simp only[Tn,Bb,List.length_nil];rw[if_neg (by simp[F8,Jo]),if_neg (by omega),if_pos (by decide+kernel)];simp[Ds,C5]
theorem Ain {a:List UInt8} (ha:Lib.validD a=true) {d:Int} (h:d<=64):Bb (Aev a) d=0:=by
 simp only[Aev,Bb,List.length_nil];rw[if_neg (by simp[F8]),if_neg (by omega),if_pos (by exact ha)];simp[Ds,C5]
theorem Ada {l:List Val} {d:Int} (h:d<=64) (hl: ∀v ∈ l,Bb v (d+1)=0):Bb (Tr l) d=0:=by
 simp only[Tr,Bb,List.length_nil];rw[if_neg (by simp[F8,Jo]),if_neg (by omega),if_pos (by decide+kernel),if_pos (Ac9 hl)];simp[C5]
theorem Yx {o:List (ByteArray×Val)} {d:Int} (h:d<=64) (ha:Rc o) (ho: ∀m ∈ o,Az m.1=true/\Bb m.2 (d+1)=0):Bb (Tt o) d=0:=by
 simp only[Tt,Bb,List.length_nil];rw[if_neg (by simp[F8,Jo]),if_neg (by omega),if_pos (by decide+kernel),if_pos (by simp[Ds])];exact Ys ha ho (fun q hq=>by cases hq)
def Rd.mayIt (d:Int):Rd Val->Prop
 | .ok v _=>Bb v d=0
 | .bad _ _=>True
theorem Ail: ∀(f:Nat),(∀s p d,(Cf f s p d).mayIt d)/\(∀s p d,d<=64->(K6 f s p d).mayIt d)/\(∀s p d,d<=64->(Qb f s p d).mayIt d)/\
 (∀s p d acc,d<=64->(∀v ∈ acc,Bb v (d+1)=0)->(Gw f s p d acc).mayIt d)/\
 (∀s p d acc,d<=64->(∀m ∈ acc,Az m.1=true/\Bb m.2 (d+1)=0)->(acc.map (·.1)).Nodup->(D7 f s p d acc).mayIt d)/\
 (∀s p d acc k,d<=64->(∀m ∈ acc,Az m.1=true/\Bb m.2 (d+1)=0)->(acc.map (·.1)).Nodup->O4 k acc=false->Az k=true->(Gt f s p d acc k).mayIt d):=by
 intro f
 induction f with
 |zero=>
  refine⟨fun s p d=> ?_,fun s p d _=> ?_,fun s p d _=> ?_,fun s p d acc _ _=> ?_,fun s p d acc _ _ _=> ?_,fun s p d acc k _ _ _ _ _=> ?_⟩
  . unfold Cf;trivial
  . unfold K6;trivial
  . unfold Qb;trivial
  . unfold Gw;trivial
  . unfold D7;trivial
  . unfold Gt;trivial
 |succ f ih=>
  obtain⟨iv,il,io,ii,im,ik⟩:=ih;refine⟨fun s p d=> ?_,fun s p d h=> ?_,fun s p d h=> ?_,fun s p d acc h hi=> ?_,fun s p d acc h hi hn=> ?_,fun s p d acc k h hi hn hk hv=> ?_⟩
  . unfold Cf
    cases hc:s[Ay s p]? with
    |none=>trivial
    |some c=>
     simp only
     split
     . trivial
     split
     . trivial
     rename_i hd;have hd':d<=64:=by omega
     split
     . exact il s _ d hd'
     split
     . exact io s _ d hd'
     split
     . cases hu:E8 s (Ay s p)with
       |bad e q=>trivial
       |ok a q=>exact Ain (Pm hu).1 hd'
     split
     . unfold Er
       split
       . exact Ago hd'
       . trivial
     split
     . unfold Er
       split
       . exact Yv true hd'
       . trivial
     split
     . unfold Er
       split
       . exact Yv false hd'
       . trivial
     . cases hu:Gm s (Ay s p)with
       |bad e q=>trivial
       |ok n q=>exact Aim n hd'
  . unfold K6
    split
    . exact Ada h (fun v hv=>by cases hv)
    . exact ii s _ d [] h (fun v hv=>by cases hv)
  . unfold Qb
    split
    . exact Yx h List.Pairwise.nil (fun v hv=>by cases hv)
    . exact im s _ d [] h (fun v hv=>by cases hv) (by simp)
  . unfold Gw;have hv:=iv s p (d+1)
    cases hr:Cf f s p (d+1)with
    |bad e q=>trivial
    |ok v q=>
     rw[hr]at hv;have e2: ∀x ∈ acc++ [v],Bb x (d+1)=0:=by
      intro x hx;rcases List.mem_append.1 hx with hx|hx
      . exact hi x hx
      . simp only[List.mem_singleton]at hx;rw[hx];exact hv
     simp only
     split
     . exact ii s _ d _ h e2
     split
     . exact Ada h e2
     . trivial
  . unfold D7
    cases hr:E8 s (Ay s p)with
    |bad e q=>trivial
    |ok k q=>
     simp only
     split
     . trivial
     rename_i hk
     split
     . exact ik s _ d acc ⟨k.toArray⟩ h hi hn (by simpa using hk) (Pm hr).1
     . trivial
  . unfold Gt;have hm:=iv s p (d+1)
    cases hr:Cf f s p (d+1)with
    |bad e q=>trivial
    |ok v q=>
     rw[hr]at hm;have e2: ∀x ∈ acc++ [(k,v)],Az x.1=true/\Bb x.2 (d+1)=0:=by
      intro x hx;rcases List.mem_append.1 hx with hx|hx
      . exact hi x hx
      . simp only[List.mem_singleton]at hx;rw[hx];exact⟨hv,hm⟩
     have e3:=Abt (v:=v) hn hk;simp only
     split
     . exact im s _ d _ h e2 e3
     split
     . obtain⟨_,s2,s3⟩:=S6 e3;exact Yx h s2 (fun m hm=>e2 m (s3.mem_iff.1 hm))
     . trivial
theorem Ae1 {f:Nat} {s:List UInt8} {p q:Nat} {d:Int} {v:Val} (h:Cf f s p d=.ok v q):Bb v d=0:=by
 have:=(Ail f).1 s p d;rw[h]at this;exact this
theorem Aei {s:List UInt8} {v:Val} {q:Nat} (h:Ib s=.ok v q):Bb v 1=0/\q=s.length/\v.bulk<=6*s.length/\It v:=by
 unfold Ib at h
 cases hr:Cf (4*s.length+4) s 0 1 with
 |bad e q=>rw[hr]at h;cases h
 |ok v' q'=>
  rw[hr]at h;simp only at h;have hw:=(I5 (4*s.length+4)).1 s 0 1 (Nat.zero_le _);have hs:=(Aer (4*s.length+4)).1 s 0 1 (Nat.zero_le _);rw[hr]at hw hs;have h2:=Ft hw.2
  split at h
  . cases h
  . simp only[Rd.ok.injEq]at h;obtain⟨rfl,rfl⟩:=h;have h3:=hs.1;have h4:=hw.2;exact⟨Ae1 hr,by omega,by omega,hs.2.2⟩
attribute [local go_sem] Oper.semAt_some
def Rf (r:Rd Nat):Value:=match r with
 | .ok r n=> .tuple #[.int .i32 r,.int .i64 n,.int .i64 0]
 | .bad e _=> .tuple #[.int .i32 0,.int .i64 0,.int .i64 e]
theorem Be {fn:Func} {t u v:Tmp} (h:fn.results= #[.tmp t,.tmp u,.tmp v]) (tmps:Array Value) (P:Program) (w:World):
 (results fn tmps).run P w=.ok (.tuple #[tmps.getD t undef,tmps.getD u undef,tmps.getD v undef]) w:=by simp[results,h]
theorem Wt (r:Nat) (t:ByteArray) (w:World) (hr:r<65536) (hs:t.size<=1000000000):Calls Tryz.prog 275 #[.int .i32 r,.string t] w fun e w'=>e=.returned (Rf (Ju r t.data.toList))/\w=w':=by
 have hU:=fun W=>S8 t W hs;by_cases h1:r<55296
 . have e:Ju r t.data.toList=.ok r 6:=by unfold Ju;rw[if_pos (.inl h1)]
   rw[e];have l:(r:Int)<55296:=by omega
   clear e hU;go_enter Tryz.func275,Tryz.ntmps275;go_wp2;exact bodyPost_ret (Be rfl _ _ _) rfl ⟨rfl,rfl⟩
 have l1: ¬((r:Int)<55296):=by omega
 by_cases h2:57344<=r
 . have e:Ju r t.data.toList=.ok r 6:=by unfold Ju;rw[if_pos (.inr h2)]
   rw[e];have l:(57344:Int)<=(r:Int):=by omega
   clear e hU;go_enter Tryz.func275,Tryz.ntmps275;go_wp2;exact bodyPost_ret (Be rfl _ _ _) rfl ⟨rfl,rfl⟩
 have l2: ¬((57344:Int)<=(r:Int)):=by omega
 by_cases h3:56320<=r
 . have e:Ju r t.data.toList=.bad 3 0:=by unfold Ju;rw[if_neg (by omega),if_pos h3]
   rw[e];have l:(56320:Int)<=(r:Int):=by omega
   clear e hU;go_enter Tryz.func275,Tryz.ntmps275;go_wp2;exact bodyPost_ret (Be rfl _ _ _) rfl ⟨rfl,rfl⟩
 have l3: ¬((56320:Int)<=(r:Int)):=by omega
 have e0:Ju r t.data.toList=match Ha t.data.toList with
  |none=> .bad 3 0
  |some m=>if m<56320\/57344<=m then .bad 3 0 else .ok (65536+1024*(r - 55296)+(m - 56320)) 12:=by unfold Ju;rw[if_neg (by omega),if_neg h3];rfl
 rw[e0];clear e0
 cases hu:Ha t.data.toList with
 |none=>
  simp only[hu,Z0]at hU;clear hu;have HU:=qz hU;clear hU;go_enter Tryz.func275,Tryz.ntmps275;go_wp2_with (fail);(with_reducible refine(HU.out _).mono ?_);rintro e w1 ⟨rfl,rfl⟩;go_wp2;exact bodyPost_ret (Be rfl _ _ _) rfl ⟨rfl,rfl⟩
 |some m=>
  have hm:=(Pl hu).1;simp only[hu,Z0]at hU;clear hu;have HU:=qz hU;clear hU;simp only;by_cases h4:m<56320
  . rw[if_pos (.inl h4)];have l:(m:Int)<56320:=by omega
    clear h4;go_enter Tryz.func275,Tryz.ntmps275;go_wp2_with (fail);(with_reducible refine(HU.out _).mono ?_);rintro e w1 ⟨rfl,rfl⟩;go_wp2;exact bodyPost_ret (Be rfl _ _ _) rfl ⟨rfl,rfl⟩
  have l4: ¬((m:Int)<56320):=by omega
  by_cases h5:57344<=m
  . rw[if_pos (.inr h5)];have l:(57344:Int)<=(m:Int):=by omega
    clear h5;go_enter Tryz.func275,Tryz.ntmps275;go_wp2_with (fail);(with_reducible refine(HU.out _).mono ?_);rintro e w1 ⟨rfl,rfl⟩;go_wp2;exact bodyPost_ret (Be rfl _ _ _) rfl ⟨rfl,rfl⟩
  have l5: ¬((57344:Int)<=(m:Int)):=by omega
  rw[if_neg (by omega)];have b1:(55296:Int)<=(r:Int):=by omega
  have b2:(r:Int)<56320:=by omega
  have b3:(56320:Int)<=(m:Int):=by omega
  have b4:(m:Int)<57344:=by omega
  have d4:decide ((m:Int)<56320)=false:=decide_eq_false (by omega);have d5:decide ((57344:Int)<=(m:Int))=false:=decide_eq_false (by omega);have eq:(((65536+1024*(r - 55296)+(m - 56320):Nat)):Int)=65536+1024*((r:Int) - 55296)+((m:Int) - 56320):=by omega
  simp only[Rf];rw[eq];clear eq h1 h2 h3 h4 h5 l4 l5;go_enter Tryz.func275,Tryz.ntmps275;go_wp2_with (fail);(with_reducible refine(HU.out _).mono ?_);rintro e w1 ⟨rfl,rfl⟩;go_wp2;exact bodyPost_ret (Be rfl _ _ _) rfl ⟨rfl,rfl⟩
def Ea:List (Int×Int):= [(34,34),(92,92),(47,47),(98,8),(102,12),(110,10),(114,13),(116,9)]
theorem Xb (w:World):Calls Tryz.prog 256 #[] w fun e w'=>e=.returned (.map (some w.heap.size))/\Ik w Ea=w':=by
 have hmm:(Instr.makeMap 246 none).run Tryz.prog w=.ok (.map (some w.heap.size)) (Ik w []):=run_makeMap _ w;have u1:=Cm w [] 34 34 rfl;have u2:=Cm w [(34,34)] 92 92 rfl;have u3:=Cm w [(34,34),(92,92)] 47 47 rfl;have u4:=Cm w [(34,34),(92,92),(47,47)] 98 8 rfl;have u5:=Cm w [(34,34),(92,92),(47,47),(98,8)] 102 12 rfl;have u6:=Cm w [(34,34),(92,92),(47,47),(98,8),(102,12)] 110 10 rfl;have u7:=Cm w [(34,34),(92,92),(47,47),(98,8),(102,12),(110,10)] 114 13 rfl;have u8:=Cm w [(34,34),(92,92),(47,47),(98,8),(102,12),(110,10),(114,13)] 116 9 rfl;simp only[List.nil_append,List.cons_append]at u1 u2 u3 u4 u5 u6 u7 u8;go_enter Tryz.func256,Tryz.ntmps256;go_wp2;go_ret;exact⟨rfl,rfl⟩
theorem Xa (c:UInt8):Eb (c.toNat:Int) Ea=(Me c).map (fun n:Nat=>(n:Int)):=by
 have: ∀c:Fin 256,Eb ((UInt8.ofNat c.val).toNat:Int) Ea=(Me (UInt8.ofNat c.val)).map (fun n:Nat=>(n:Int)):=by decide+kernel
 have h:=this ⟨c.toNat,c.toNat_lt⟩;simpa using h
theorem Wd (t:ByteArray) (mb:Nat) (w:World) (hs:t.size<=1000000000) (hm:w.heap[mb]? =some (.map (Jp Ea 0).toArray Ea.length)):Calls Tryz.prog 257 #[.string t,.map (some mb)] w fun e w'=>e=.returned (Rf (Lm t.data.toList))/\w=w':=by
 have hU:=fun W=>S8 t W hs
 cases hu:Ha t.data.toList with
 |some r=>
  obtain⟨hr,h6⟩:=Pl hu;rw[Am]at h6;have hext:(t.extract 6 t.size).data.toList=t.data.toList.drop 6:=by
   rw[Lib.extract_data];exact List.take_of_length_le (by rw[List.length_drop,Am];omega)
  have hP:=fun W=>Wt r (t.extract 6 t.size) W hr (by rw[ByteArray.size_extract];omega);have e0:Lm t.data.toList=Ju r (t.data.toList.drop 6):=by unfold Lm;rw[hu]
  rw[e0];rw[hext]at hP;simp only[hu,Z0]at hU;have l6:(6:Int)<=(t.size:Int):=by omega
  clear hu hext e0;generalize Ju r (t.data.toList.drop 6)=X at hP ⊢
  cases X with
  |ok r' n'=>
   simp only[Rf]at hP ⊢;obtain⟨HU,HP⟩:=hid2 hU hP;clear hU hP;clear hm;go_enter Tryz.func257,Tryz.ntmps257;go_wp2_with (fail);(with_reducible refine(HU.out _).mono ?_);rintro e w1 ⟨rfl,rfl⟩;go_wp2_with (fail);(with_reducible refine(HP.out _).mono ?_);rintro e w1 ⟨rfl,rfl⟩;go_wp2;exact bodyPost_ret (Be rfl _ _ _) rfl ⟨rfl,rfl⟩
  |bad r' n'=>
   simp only[Rf]at hP ⊢;obtain⟨HU,HP⟩:=hid2 hU hP;clear hU hP;clear hm;go_enter Tryz.func257,Tryz.ntmps257;go_wp2_with (fail);(with_reducible refine(HU.out _).mono ?_);rintro e w1 ⟨rfl,rfl⟩;go_wp2_with (fail);(with_reducible refine(HP.out _).mono ?_);rintro e w1 ⟨rfl,rfl⟩;go_wp2;exact bodyPost_ret (Be rfl _ _ _) rfl ⟨rfl,rfl⟩
 |none=>
  have e0:Lm t.data.toList=Wk t.data.toList:=by unfold Lm;rw[hu]
  rw[e0];simp only[hu,Z0]at hU;clear hu e0;by_cases h1:1<t.size
  . obtain⟨c,hc⟩: ∃c,t[1]=c:=⟨_,rfl⟩;have hg:t.data.toList[1]? =some c:=by rw[D6 t h1,hc]
    have hcl:=Du c;have hlk:=S2 w mb Ea c.toNat hm;rw[Xa]at hlk;have l1:(1:Int)<(t.size:Int):=by omega
    unfold Wk;rw[hg];simp only
    cases he:Me c with
    |none=>
     rw[he]at hlk;simp only[Option.map_none,Option.getD_none,Option.isSome_none,Rf]at hlk ⊢;clear he hg;have HU:=qz hU;clear hU;clear hm;go_enter Tryz.func257,Tryz.ntmps257;go_wp2_with (fail);(with_reducible refine(HU.out _).mono ?_);rintro e w1 ⟨rfl,rfl⟩;go_wp2;exact bodyPost_ret (Be rfl _ _ _) rfl ⟨rfl,rfl⟩
    |some x=>
     rw[he]at hlk;simp only[Option.map_some,Option.getD_some,Option.isSome_some,Rf]at hlk ⊢;clear he hg;have HU:=qz hU;clear hU;clear hm;go_enter Tryz.func257,Tryz.ntmps257;go_wp2_with (fail);(with_reducible refine(HU.out _).mono ?_);rintro e w1 ⟨rfl,rfl⟩;go_wp2;exact bodyPost_ret (Be rfl _ _ _) rfl ⟨rfl,rfl⟩
  . have e0:Wk t.data.toList=.bad 4 0:=by
     unfold Wk;rw[List.getElem?_eq_none (by rw[Am];omega)]
    have l1: ¬((1:Int)<(t.size:Int)):=by omega
    rw[e0];simp only[Rf];clear e0;have HU:=qz hU;clear hU;clear hm;go_enter Tryz.func257,Tryz.ntmps257;go_wp2_with (fail);(with_reducible refine(HU.out _).mono ?_);rintro e w1 ⟨rfl,rfl⟩;go_wp2;exact bodyPost_ret (Be rfl _ _ _) rfl ⟨rfl,rfl⟩
def Fe:Nat->List UInt8->Nat
 |0,_=>0
 |f+1,l=>if l= []then 0 else if(Lib.decodeL l).1=65533/\(Lib.decodeL l).2=1 then 0 else if 32<=(Lib.decodeL l).1/\(Lib.decodeL l).1≠34/\(Lib.decodeL l).1≠92 then(Lib.decodeL l).2+Fe f (l.drop (Lib.decodeL l).2)else 0
def Je (r:Nat):Bool:=decide (32<=r/\r≠34/\r≠92)
def Gy (z:Nat):List (Nat×Nat)->Nat
 | []=>z
 |x::r=>if Je x.2=true then Gy (x.1+(Lib.encodeRune (x.2:Int)).length) r else x.1
theorem Acc {r:Nat} (h:Fq r):Lib.runeLen (r:Int)=((Lib.encodeRune (r:Int)).length:Nat):=by
 unfold Fq at h;unfold Lib.encodeRune Lib.runeLen;rw[List.length_map];by_cases h1:r<=127
 . rw[Lib.encodeRuneZ_one (by omega) (by omega),if_neg (by omega),if_pos (by omega)];rfl
 by_cases h2:r<=2047
 . rw[Lib.encodeRuneZ_two (by omega) (by omega),if_neg (by omega),if_neg (by omega),if_pos (by omega)];rfl
 by_cases h3:r<=65535
 . rw[Lib.encodeRuneZ_three (by omega),if_neg (by omega),if_neg (by omega),if_neg (by omega),if_neg (by omega),if_pos (by omega)];rfl
 . rw[Lib.encodeRuneZ_four (by omega) (by omega),if_neg (by omega),if_neg (by omega),if_neg (by omega),if_neg (by omega),if_neg (by omega),if_pos (by omega)];rfl
theorem Qz: ∀(n:Nat) (l:List UInt8) (p:Nat),Gy p (A9 n l p)=p+Fe n l
 |0,l,p=>by simp[A9,Gy,Fe]
 |n+1,l,p=>by
  simp only[A9,Fe];by_cases h1:l= []
  . rw[if_pos h1,if_pos h1];rfl
  rw[if_neg h1,if_neg h1];by_cases h2:(Lib.decodeL l).1=65533/\(Lib.decodeL l).2=1
  . rw[if_pos h2,if_pos h2];rfl
  rw[if_neg h2,if_neg h2];simp only[Gy];by_cases h3:32<=(Lib.decodeL l).1/\(Lib.decodeL l).1≠34/\(Lib.decodeL l).1≠92
  . have e:Je (Lib.decodeL l).1=true:=by unfold Je;exact decide_eq_true h3
    have hl:(Lib.encodeRune ((Lib.decodeL l).1:Int)).length=(Lib.decodeL l).2:=by
     rw[Lib.encode_decode l h1 h2,List.length_take];have:=Lib.decodeL_le l h1;omega
    rw[if_pos e,if_pos h3,hl,Qz n _ _];omega
  . have e:Je (Lib.decodeL l).1=false:=by unfold Je;exact decide_eq_false h3
    rw[e,if_neg (by decide),if_neg h3];rfl
theorem Vc: ∀(n:Nat) (l:List UInt8),Fe n l<=l.length
 |0,l=>Nat.zero_le _
 |n+1,l=>by
  simp only[Fe]
  split
  . exact Nat.zero_le _
  rename_i h1
  split
  . exact Nat.zero_le _
  split
  . have:=Lib.decodeL_le l h1;have h2:=Vc n (l.drop (Lib.decodeL l).2);rw[List.length_drop]at h2;omega
  . exact Nat.zero_le _
def Xh:List (Nat×Nat)->Nat
 | []=>0
 |x::r=>match r with
  | []=>x.1+(Lib.encodeRune (x.2:Int)).length
  |y::r'=>Xh (y::r')
theorem Aey (l:List (Nat×Nat)) (x:Nat×Nat):Xh (l++ [x])=x.1+(Lib.encodeRune (x.2:Int)).length:=by
 induction l with
 |nil=>rfl
 |cons a l ih=>
  cases l with
  |nil=>rfl
  |cons b l=>exact ih
theorem Od: ∀(l r:List (Nat×Nat)) (z:Nat),(∀x ∈ l,Je x.2=true)->Gy z (l++r)=Gy (if l= []then z else Xh l) r
 | [],r,z,_=>by simp
 |a::l,r,z,h=>by
  rw[List.cons_append,Gy,if_pos (h a (by simp)),Od l r _ (fun x hx=>h x (by simp[hx]))]
  cases l with
  |nil=>rfl
  |cons b l=>rfl
theorem Pf: ∀(n:Nat) (l:List UInt8) (p:Nat),∀x ∈ A9 n l p,x.1+(Lib.encodeRune (x.2:Int)).length<=p+l.length
 |0,_,_,x,hx=>by simp[A9]at hx
 |n+1,l,p,x,hx=>by
  simp only[A9]at hx
  split at hx
  . cases hx
  rename_i h1
  split at hx
  . cases hx
  rename_i h2;have hd:=Lib.decodeL_le l h1;rcases List.mem_cons.1 hx with rfl|hx
  . simp only;rw[Lib.encode_decode l h1 h2,List.length_take];omega
  . have:=Pf n _ _ x hx;rw[List.length_drop]at this;omega
def PI (s:ByteArray) (w:World) (d:Nat) (pre:List (Nat×Nat)) (W:World):Prop:=
 Below w.heap.size w W/\Aj W w.heap.size 3 #[.int .i64 0]/\Aj W (w.heap.size+1) 3 #[.int .i64 (Xh pre)]/\(∀x ∈ pre,Je x.2=true)/\W.heap[d]? =some (.cells #[.string s] 9 (0,0))
def PX (w:World) (v:Nat) (W:World):Prop:=Below w.heap.size w W/\Aj W w.heap.size 3 #[.int .i64 v]
theorem Oy {A:World} {g k:Nat} {t:TypeId} {cs:Array Value} {o o':Obj} (h:Aj A g t cs) (ho:A.heap[k]? =some o) (hc:o.isCells=false):Aj (A.putObj k o') g t cs:=by
 by_cases e:g=k
 . subst e;unfold Aj at h;rw[h]at ho
   cases ho
   cases hc
 . exact(World.putObj_heap_other e).trans h
theorem M3 {B:Nat} {a A:World} {k:Nat} (h:Below B a A) (hB:B<=A.heap.size) (hk:B<=k) (o':Obj):Below B a (A.putObj k o'):=h.grown (grownBy_putObj' A k o') hB (fun j e=>by cases e;exact hk)
theorem Zf (s:ByteArray) (w:World) (hT:Cl w) (hs:s.size<=1000000000):
 Calls Tryz.prog 258 #[.string s] w fun e w'=>e=.returned (.int .i64 (Fe s.size s.data.toList:Nat))/\Below w.heap.size w w':=by
 have hfin:Gy 0 (Cr s)=Fe s.size s.data.toList:=by
  unfold Cr;rw[Qz];omega
 rw[<-hfin];have Hrs: ∀pre x rest,Cr s=pre++x::rest->Fq x.2/\x.1+(Lib.encodeRune (x.2:Int)).length<=s.size:=by
  intro pre x rest h;have hm:x ∈ A9 s.size s.data.toList 0:=by show x ∈ Cr s;rw[h];simp
  refine⟨Iw _ _ _ x hm, ?_⟩;have:=Pf s.size s.data.toList 0 x hm
  rwa [Am,Nat.zero_add]at this
 refine(callsIn_wide (n:=12)).1 ?_;refine callsIn_of_wp_marks Tryz.func258 rfl trivial ?_ rfl;simp only[Tryz.ntmps258,List.size_toArray,List.length_cons,List.length_nil,Nat.reduceAdd,Nat.reduceSub,Array.replicate_succ,Array.replicate_zero,List.push_toArray,List.append_toArray,List.nil_append,List.cons_append];have Hx0:=qz (((Aj.new w 3 #[.int .i64 0]).alloc (.cells #[.int .i64 0] 3)).alloc (.cells #[.string s] 9));have hx1:=(Aj.new (w.alloc (.cells #[.int .i64 0] 3)) 3 #[.int .i64 0]).alloc (.cells #[.string s] 9);rw[World.size_alloc]at hx1;have Hbw:=qz ((((Below.refl w.heap.size w).alloc (Nat.le_refl _) (.cells #[.int .i64 0] 3)).alloc (by simp) (.cells #[.int .i64 0] 3)).alloc (by simp;omega) (.cells #[.string s] 9));have hnew:=heap_alloc_new ((w.alloc (.cells #[.int .i64 0] 3)).alloc (.cells #[.int .i64 0] 3)) (.cells #[.string s] 9);have hsz:((w.alloc (.cells #[.int .i64 0] 3)).alloc (.cells #[.int .i64 0] 3)).heap.size=w.heap.size+2:=by simp
 rw[hsz]at hnew;obtain⟨Hx1,Hfin,Hnew,Hsz⟩:=hid4 hx1 hfin hnew hsz;clear hx1 hfin hnew hsz
 gi_wp2_with (refine⟨trivial, ?_⟩;gi_at_call 202;refine(callsIn_wide.2 (Qj _ _)).mono ?_;rintro e w3 ⟨rfl,rfl⟩)
 have hz3:(((w.alloc (.cells #[.int .i64 0] 3)).alloc (.cells #[.int .i64 0] 3)).alloc (.cells #[.string s] 9)).heap.size=w.heap.size+3:=by simp
 generalize ((w.alloc (.cells #[.int .i64 0] 3)).alloc (.cells #[.int .i64 0] 3)).alloc (.cells #[.string s] 9)=w3 at*
 have hyld:=Zs s (w.heap.size+2) hs;refine Ud (n:=10) (gf:=228) (lb:= #[.pointer (some ⟨w.heap.size+2,0,none⟩)]) rfl (enters_of Tryz.func228 (by kernel_rfl) rfl) hyld (fun _=>rfl)
  (fun pre W=>PI s w (w.heap.size+2) pre W/\w.heap.size+3<=W.heap.size) (fun W=>PX w (Gy 0 (Cr s)) W/\w.heap.size+3<=W.heap.size) ?hIn ?hXn ?hXp ?hIp ?hIb ?h0 ?a1 ?assign ?body ?stop ?done
 case assign=>
  intro l x W K hK
  gi_wp2
  exact hK
 case h0=>exact⟨⟨Hbw.out,Hx0.out,Hx1.out,fun x hx=>(by cases hx),Hnew.out⟩,by omega⟩
 case hIb=>
  rintro pre A ⟨⟨h1,_,_,_,h4⟩,_⟩;exact⟨(Lib.cell_of_heap h4 0).trans rfl,hT.below h1⟩
 case hIn=>
  rintro pre A B ⟨⟨h1,h2,h3,h4,h5⟩,h6⟩ hb;exact⟨⟨h1.trans (hb.mono h1.size),h2.below hb h2.lt,h3.below hb h3.lt,h4,(hb.block _ (Array.getElem?_eq_some_iff.1 h5).1).trans h5⟩,Nat.le_trans h6 hb.size⟩
 case hXn=>
  rintro A B ⟨⟨h1,h2⟩,h6⟩ hb;exact⟨⟨h1.trans (hb.mono h1.size),h2.below hb h2.lt⟩,Nat.le_trans h6 hb.size⟩
 case hXp=>
  rintro A k o o' ⟨⟨h1,h2⟩,h6⟩ ho hc hk;exact⟨⟨M3 h1 h1.size (by omega) _,Oy h2 ho hc⟩,by simpa using h6⟩
 case hIp=>
  rintro pre A k o o' ⟨⟨h1,h2,h3,h4,h5⟩,h6⟩ ho hc hk;exact⟨⟨M3 h1 h1.size (by omega) _,Oy h2 ho hc,Oy h3 ho hc,h4,(World.putObj_heap_other (by omega)).trans h5⟩,by simpa using h6⟩
 case body=>
  rintro l pre ⟨p,r⟩ rest W hx ⟨⟨h1,h2,h3,h4,h5⟩,h6⟩ ⟨ds,hds⟩ ⟨rc,hrc⟩;obtain⟨hsc,hle⟩:=Hrs pre (p,r) rest hx;simp only at hsc hle;have c0:=h2.cell 0;have c1:=h3.cell 0;have f0:=h2.frozen 0;have f1:=h3.frozen 0;have hl0:=h2.lt;have hl1:=h3.lt
  cases hB:Je r with
  |true=>
   have hB':decide (32<=(r:Int)/\(r:Int)≠34/\(r:Int)≠92)=true:=by
    unfold Je at hB;rw[decide_eq_true_eq]at hB ⊢;omega
   have hRL:=fun W=>Tryz.utf8_RuneLen (r:Int) W;rw[Acc hsc]at hRL;have hfinI: ∀(a:Act),We (fun W=>PI s w (w.heap.size+2) (pre++ [(p,r)]) W/\w.heap.size+3<=W.heap.size) (fun W=>PX w (Gy 0 (Cr s)) W/\w.heap.size+3<=W.heap.size) w3.heap.size W .normal a (W.setCell ⟨w.heap.size+1,0,none⟩ (.int .i64 ((p:Int)+((Lib.encodeRune (r:Int)).length:Nat)))):=by
    intro a;refine⟨Below.heap_setCell _ _ _ _ (by show w3.heap.size≠w.heap.size+1;omega),Below.heap_setCell _ _ _ _ (by show w3.heap.size+1≠w.heap.size+1;omega),⟨h1.setCell (p:=⟨w.heap.size+1,0,none⟩) (by show w.heap.size<=w.heap.size+1;omega) _,h2.far (by show w.heap.size≠w.heap.size+1;omega) _, ?_, ?_,(Below.heap_setCell _ _ _ _ (by show w.heap.size+2≠w.heap.size+1;omega)).trans h5⟩,by simpa[World.setCell]using h6⟩
    . have:=h3.set_ 0 (.int .i64 ((p:Int)+((Lib.encodeRune (r:Int)).length:Nat)));rw[Aey];simpa using this
    . intro x hx';rcases List.mem_append.1 hx' with hx'|hx'
      . exact h4 x hx'
      . simp only[List.mem_singleton]at hx';rw[hx'];exact hB
   generalize (Lib.encodeRune (r:Int)).length=n at hRL hle hfinI;obtain⟨HRL,HfinI,H1,H2,H3,H4,H5,Hx,Hds,Hrc⟩:=hid10 hRL hfinI h1 h2 h3 h4 h5 hx hds hrc;clear hRL hfinI h1 h2 h3 h4 h5 hx hds hrc;clear hB
   gi_wp2_with (first|(refine⟨trivial, ?_⟩;gi_at_call 203;refine(CallsIn.inRound l (callsIn_wide.2 (Dd hB' _))).mono ?_;rintro e wx ⟨rfl,rfl⟩)|(refine⟨trivial, ?_⟩;gi_at_call 276;refine(CallsIn.inRound l (callsIn_wide.2 (HRL.out _))).mono ?_;rintro e wx ⟨rfl,rfl⟩))
   exact HfinI.out _
  |false=>
   have hB':decide (32<=(r:Int)/\(r:Int)≠34/\(r:Int)≠92)=false:=by
    unfold Je at hB;rw[decide_eq_false_iff_not]at hB ⊢;omega
   have hval:Gy 0 (Cr s)=p:=by
    rw[hx,Od _ _ _ h4,Gy,hB,if_neg (by decide)]
   have hfinX: ∀(a:Act),We (fun W=>PI s w (w.heap.size+2) (pre++ [(p,r)]) W/\w.heap.size+3<=W.heap.size) (fun W=>PX w (Gy 0 (Cr s)) W/\w.heap.size+3<=W.heap.size) w3.heap.size W .ret a (W.setCell ⟨w.heap.size,0,none⟩ (.int .i64 (p:Int))):=by
    intro a;refine⟨Below.heap_setCell _ _ _ _ (by show w3.heap.size≠w.heap.size;omega),Below.heap_setCell _ _ _ _ (by show w3.heap.size+1≠w.heap.size;omega),⟨h1.setCell (p:=⟨w.heap.size,0,none⟩) (Nat.le_refl _) _, ?_⟩,by simpa[World.setCell]using h6⟩;have:=h2.set_ 0 (.int .i64 (p:Int));rw[hval];exact this
   obtain⟨HfinX,H1,H2,H3,H4,H5,Hx,Hds,Hrc,Hval⟩:=hid10 hfinX h1 h2 h3 h4 h5 hx hds hrc hval;clear hfinX h1 h2 h3 h4 h5 hx hds hrc hval;clear hB
   gi_wp2_with (refine⟨trivial, ?_⟩;gi_at_call 203;refine(CallsIn.inRound l (callsIn_wide.2 (Dd hB' _))).mono ?_;rintro e wx ⟨rfl,rfl⟩)
   exact HfinX.out _
 case stop=>
  rintro W ⟨⟨h1,h2⟩,h6⟩ hds;have h2':=Oy h2 hds rfl (o':=.deferred none);have c0:=h2'.cell 0;have Hb':=qz (M3 h1 h1.size (k:=w3.heap.size) (by omega) (.deferred none));obtain⟨H1,H2,H2'⟩:=hid3 h1 h2 h2';clear h1 h2 h2'
  gi_wp2
  refine⟨by simp,.inl ⟨_,_,rfl,run_takeDeferred hds, ?_⟩⟩;refine⟨.int .i64 (Gy 0 (Cr s):Nat), ?_,rfl,Hb'.out⟩;simp[results,Tryz.results258,go_sem,c0]
 case done=>
  rintro W ⟨⟨h1,h2,h3,h4,h5⟩,h6⟩ hds;have hval:Gy 0 (Cr s)=Xh (Cr s):=by
   have:=Od (Cr s) [] 0 h4;rw[List.append_nil]at this;rw[this]
   split
   . rename_i e;rw[e];rfl
   . rfl
  have c0:=h2.cell 0;have c1:=h3.cell 0;have f0:=h2.frozen 0;have hl0:=h2.lt;have hds':=(Below.heap_setCell W ⟨w.heap.size,0,none⟩ (.int .i64 (Xh (Cr s):Nat)) w3.heap.size (by show w3.heap.size≠w.heap.size;omega)).trans hds;have h2':=Oy (h2.set_ 0 (.int .i64 (Xh (Cr s):Nat))) hds' rfl (o':=.deferred none);have c0':=h2'.cell 0;have Hb':=qz (M3 (h1.setCell (p:=⟨w.heap.size,0,none⟩) (Nat.le_refl _) (.int .i64 (Xh (Cr s):Nat))) (by simpa[World.setCell]using h1.size) (k:=w3.heap.size) (by omega) (.deferred none));obtain⟨H1,H2,H3,H4,H5,H2',Hval,Hds'⟩:=hid8 h1 h2 h3 h4 h5 h2' hval hds';clear h1 h2 h3 h4 h5 h2' hval hds'
  gi_wp2
  refine⟨by simp,.inl ⟨_,_,rfl,run_takeDeferred Hds'.out, ?_⟩⟩;refine⟨.int .i64 (Xh (Cr s):Nat), ?_,by rw[Hval.out],Hb'.out⟩;simp[results,Tryz.results258,go_sem,c0']
end Go.Proofs.YtobmaegpfbheoaaGreatDoor
