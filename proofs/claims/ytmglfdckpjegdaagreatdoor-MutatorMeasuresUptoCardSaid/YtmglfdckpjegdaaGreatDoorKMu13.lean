/- Parts: Values that may be and have the same text are the same, the values. Plain. No condition. -/
import Derived.Test.YtmglfdckpjegdaaGreatDoorKMu11
import Derived.Test.YtmglfdckpjegdaaGreatDoorKMu12
namespace Go.Proofs.YtmglfdckpjegdaaGreatDoor
open Go.RowKit
theorem Ant (r:Int):(Lib.encodeRune r).length<=4:=by
 have:=(Lib.encodeRuneZ_length r).2;unfold Lib.encodeRune
 rwa [List.length_map]
theorem Alc {r:Int} (h0:0<=r) (h:r<128):(Lib.encodeRune r).length=1:=by
 unfold Lib.encodeRune;rw[List.length_map,Lib.encodeRuneZ_one h0 (by omega)];rfl
theorem Acm {l:List UInt8} {r n:Nat} (h:Md l=.ok r n):(Lib.encodeRune (r:Int)).length<=n:=by
 have h2:=(Ul h).2.2.1;have h4:=Ant (r:Int);by_cases hn:4<=n
 . omega
 have hr:r<128\/6<=n:=by
  unfold Md at h
  cases hu:Iq l with
  |some u=>
   rw[hu]at h;simp only[Lb]at h
   split at h
   . simp only[Rd.ok.injEq]at h;omega
   split at h
   . cases h
   cases hm:Iq (l.drop 6)with
   |none=>rw[hm]at h;cases h
   |some m=>
    rw[hm]at h;simp only at h
    split at h
    . cases h
    . simp only[Rd.ok.injEq]at h;omega
  |none=>
   rw[hu]at h;simp only[Xj]at h
   cases hc:l[1]? with
   |none=>rw[hc]at h;cases h
   |some c=>
    rw[hc]at h;simp only at h
    cases he:Ms c with
    |none=>rw[he]at h;cases h
    |some x=>
     rw[he]at h;simp only[Rd.ok.injEq]at h;have:x<=92:=by
      unfold Ms at he
      repeat' split at he
      all_goals first|(simp at he;omega)|cases he
     omega
 rcases hr with hr|hr
 . have:=Alc (r:=(r:Int)) (by omega) (by omega);omega
 . omega
def Qm (rs:List Nat):List UInt8:=rs.flatMap fun(r:Nat)=>Lib.encodeRune (r:Int)
theorem Z4: ∀{rs:List Nat},(∀r ∈ rs,D3 r)->Lib.validD (Qm rs)=true
 | [],_=>rfl
 |r::rs,h=>by
  have e:Qm (r::rs)=Lib.encodeRune (r:Int)++Qm rs:=rfl;rw[e,Ag2 (h r (by simp))];exact Z4 fun x hx=>h x (by simp[hx])
theorem U2 {l:List UInt8} (hl:l≠ []) (h: ¬((Lib.decodeL l).1=65533/\(Lib.decodeL l).2=1)):D3 (Lib.decodeL l).1:=by
 have h1:=Rc l;rw[Qj l hl,if_neg h]at h1;have:=Lib.decodeL_width l;unfold D3;simp only at h1;omega
theorem Abl: ∀(f:Nat) (s:List UInt8) (i:Nat) (out a:List UInt8) (q:Nat),Ko f s i out=.ok a q->(∃rs,(∀r ∈ rs,D3 r)/\out=Qm rs)->(∃rs,(∀r ∈ rs,D3 r)/\a=Qm rs)/\a.length+i+1<=out.length+q
 |0,s,i,out,a,q,h,_=>by unfold Ko at h;cases h
 |f+1,s,i,out,a,q,h,ho=>by
  unfold Ko at h
  cases hc:s[i]? with
  |none=>rw[hc]at h;cases h
  |some c=>
   rw[hc]at h;have hi:=Dp hc;have hne:s.drop i≠ []:=by rw[Ks hc];simp
   simp only at h
   split at h
   . simp only[Rd.ok.injEq]at h;obtain⟨rfl,rfl⟩:=h;exact⟨ho,by omega⟩
   split at h
   . cases h
   obtain⟨rs,h1,h2⟩:=ho
   split at h
   . cases he:Md (s.drop i)with
     |bad e x=>rw[he]at h;cases h
     |ok r n=>
      rw[he]at h;have hok:=Ul he;have hlen:=Acm he;have hn:D3 r:=⟨hok.1,hok.2.1⟩;obtain⟨k1,k2⟩:=Abl f s _ _ _ _ h ⟨rs++ [r],fun x hx=>by
       rcases List.mem_append.1 hx with hx|hx
       . exact h1 x hx
       . simp only[List.mem_singleton]at hx;rw[hx];exact hn,by simp[Qm,h2]⟩
      rw[List.length_append]at k2;exact⟨k1,by omega⟩
   split at h
   . cases h
   . rename_i hd;have hn:=U2 hne hd;obtain⟨k1,k2⟩:=Abl f s _ _ _ _ h ⟨rs++ [(Lib.decodeL (s.drop i)).1],fun x hx=>by
      rcases List.mem_append.1 hx with hx|hx
      . exact h1 x hx
      . simp only[List.mem_singleton]at hx;rw[hx];exact hn,by simp[Qm,h2,Lib.encode_decode _ hne hd]⟩
     rw[List.length_append,List.length_take]at k2;exact⟨k1,by omega⟩
theorem R7 {s:List UInt8} {p q:Nat} {a:List UInt8} (h:Fk s p=.ok a q):Lib.validD a=true/\a.length+p+2<=q:=by
 unfold Fk at h
 split at h
 . obtain⟨⟨rs,h1,h2⟩,h3⟩:=Abl _ _ _ _ _ _ h ⟨[],fun r hr=>(by cases hr),rfl⟩;rw[h2];refine⟨Z4 h1, ?_⟩;rw[<-h2];simp only[List.length_nil]at h3;omega
 . cases h
theorem Adr {s:List UInt8} {p q:Nat} {n:Int} (h:Eb s p=.ok n q): -9223372036854775808<=n/\n<=9223372036854775807:=by
 unfold Eb Ps Ah3 at h
 repeat' split at h
 all_goals first|(simp only[Rd.ok.injEq]at h;omega)|cases h
theorem Yb: ∀(a b:List Val),Bd (a++b)=Bd a+Bd b
 | [],b=>by simp[Bd]
 |x::r,b=>by simp only[List.cons_append,Bd,Yb r b];omega
theorem Ahl: ∀{a b:List Val},Mz a->Mz b->Mz (a++b)
 | [],_,_,h=>h
 |x::r,b,h,h'=>by
  simp only[List.cons_append,Mz]at h ⊢;exact⟨h.1,Ahl h.2 h'⟩
theorem Agx (l:List (ByteArray×Val)):Av (J0 l)<=Av l:=by
 unfold J0
 cases h:Fc l []with
 |none=>simp[Av]
 |some o=>have:=Tk h;simp only[Av]at this;simp only[Option.getD_some];omega
theorem Am3 {l:List (ByteArray×Val)} (hi:Jf l):Jf (J0 l):=by
 unfold J0
 cases h:Fc l []with
 |none=>simp[Jf]
 |some o=>exact Zb h (by simp[Jf]) hi
theorem eb:Gx.size=0:=rfl
def Rd.sized (base p:Nat) (C:Nat):Rd Val->Prop
 | .ok v q=>v.bulk+base<=C+6*(q - p)/\p<q/\Jg v
 | .bad _ _=>True
theorem Ajy: ∀(f:Nat),(∀s p d,p<=s.length->(Ch f s p d).sized 0 p 0)/\(∀s p d,p<s.length->(L2 f s p d).sized 0 p 0)/\(∀s p d,p<s.length->(P9 f s p d).sized 0 p 0)/\
 (∀s p d acc,p<=s.length->Mz acc->(Fa f s p d acc).sized 0 p (6+Bd acc))/\(∀s p d acc,p<=s.length->Jf acc->(Cc f s p d acc).sized 0 p (6+Av acc))/\
 (∀s p d acc k,p<=s.length->Jf acc->(Ie f s p d acc k).sized 0 p (7+Av acc+k.size)):=by
 intro f
 induction f with
 |zero=>
  refine⟨fun s p d h=> ?_,fun s p d h=> ?_,fun s p d h=> ?_,fun s p d acc h _=> ?_,fun s p d acc h _=> ?_,fun s p d acc k h _=> ?_⟩
  . unfold Ch;trivial
  . unfold L2;trivial
  . unfold P9;trivial
  . unfold Fa;trivial
  . unfold Cc;trivial
  . unfold Ie;trivial
 |succ f ih=>
  obtain⟨iv,il,io,ii,im,ik⟩:=ih;have win:=Kp f;have lift: ∀{p p' q:Nat} {r:Rd Val},p<=p'->r.sized 0 p' 0->r.sized 0 p 0:=by
   intro p p' q r hp hr
   cases r with
   |ok v q=>exact⟨by have:=hr.1;omega,by have:=hr.2.1;omega,hr.2.2⟩
   |bad e q=>trivial
  refine⟨fun s p d h=> ?_,fun s p d h=> ?_,fun s p d h=> ?_,fun s p d acc h hi=> ?_,fun s p d acc h hi=> ?_,fun s p d acc k h hi=> ?_⟩
  . unfold Ch;have hp:=Gr h;have hg:=Dx s p
    cases hc:s[Ay s p]? with
    |none=>trivial
    |some c=>
     have hl:=Dp hc;simp only
     split
     . trivial
     split
     . trivial
     split
     . exact lift (q:=0) hg (il s _ d hl)
     split
     . exact lift (q:=0) hg (io s _ d hl)
     split
     . cases hu:Fk s (Ay s p)with
       |bad e q=>trivial
       |ok a q=>
        obtain⟨_,h2⟩:=R7 hu;refine⟨?_,by omega,by simp[Aei,Jg,Mz,Jf]⟩;simp only[Aei,Val.bulk,Bd,Av,Py];omega
     split
     . unfold Ec
       split
       . refine⟨?_,by simp only[List.length_cons,List.length_nil];omega,by simp[O3,Jg,Mz,Jf]⟩;simp only[O3,Val.bulk,Bd,Av,eb,List.length_cons,List.length_nil];omega
       . trivial
     split
     . unfold Ec
       split
       . refine⟨?_,by simp only[List.length_cons,List.length_nil];omega,by simp[J6,Jg,Mz,Jf]⟩;simp only[J6,Val.bulk,Bd,Av,eb,List.length_cons,List.length_nil];omega
       . trivial
     split
     . unfold Ec
       split
       . refine⟨?_,by simp only[List.length_cons,List.length_nil];omega,by simp[J6,Jg,Mz,Jf]⟩;simp only[J6,Val.bulk,Bd,Av,eb,List.length_cons,List.length_nil];omega
       . trivial
     . have hw:=Oe hl
       cases hu:Eb s (Ay s p)with
       |bad e q=>trivial
       |ok n q=>
        have hn:=Adr hu;rw[hu]at hw;have:=hw.1;refine⟨?_,by omega,by simp only[Sn,Jg,Mz,Jf];exact⟨hn,trivial,trivial⟩⟩;simp only[Sn,Val.bulk,Bd,Av,eb];omega
  . unfold L2;have hp:=Gr (s:=s) (p:=p+1) h;have hg:=Dx s (p+1)
    split
    . refine⟨?_,by omega,by simp[Uc,Jg,Mz,Jf]⟩;simp only[Uc,Val.bulk,Bd,Av,eb];omega
    . have:=ii s _ d [] hp (by simp[Mz])
      cases hr:Fa f s (Ay s (p+1)) d []with
      |bad e q=>trivial
      |ok v q=>
       rw[hr]at this;obtain⟨h1,h2,h3⟩:=this;simp only[Bd]at h1;exact⟨by omega,by omega,h3⟩
  . unfold P9;have hp:=Gr (s:=s) (p:=p+1) h;have hg:=Dx s (p+1)
    split
    . refine⟨?_,by omega,by simp[Su,Jg,Mz,Jf]⟩;simp only[Su,Val.bulk,Bd,Av,eb];omega
    . have:=im s _ d [] hp (by simp[Jf])
      cases hr:Cc f s (Ay s (p+1)) d []with
      |bad e q=>trivial
      |ok v q=>
       rw[hr]at this;obtain⟨h1,h2,h3⟩:=this;simp only[Av]at h1;exact⟨by omega,by omega,h3⟩
  . unfold Fa;have hv:=iv s p (d+1) h;have hw:=win.1 s p (d+1) h
    cases hr:Ch f s p (d+1)with
    |bad e q=>trivial
    |ok v q=>
     rw[hr]at hv hw;obtain⟨h1,h2⟩:=hw;obtain⟨k1,_,k3⟩:=hv;have hg:=Dx s q;have e1:Bd (acc++ [v])=Bd acc+v.bulk:=by rw[Yb];simp[Bd]
     have e2:Mz (acc++ [v]):=Ahl hi ⟨k3,trivial⟩;simp only
     split
     . rename_i hc;have:=ii s _ d _ (Dp hc) e2
       cases hr2:Fa f s (Ay s q+1) d (acc++ [v])with
       |bad e q=>trivial
       |ok v' q'=>
        rw[hr2]at this;obtain⟨a1,a2,a3⟩:=this;exact⟨by omega,by omega,a3⟩
     split
     . refine⟨?_,by omega, ?_⟩
       . simp only[Uc,Val.bulk,Av,eb];omega
       . simp only[Uc,Jg,Jf];exact⟨by omega,e2,trivial⟩
     . trivial
  . unfold Cc;have hp0:=Gr h;have hg0:=Dx s p;have hw:=J2 hp0
    cases hr:Fk s (Ay s p)with
    |bad e q=>trivial
    |ok k q=>
     rw[hr]at hw;have hu:=(R7 hr).2;have hg:=Dx s q;simp only
     split
     . trivial
     split
     . rename_i hc;have:=ik s _ d acc ⟨k.toArray⟩ (Dp hc) hi
       cases hr2:Ie f s (Ay s q+1) d acc ⟨k.toArray⟩with
       |bad e q=>trivial
       |ok v' q'=>
        rw[hr2]at this;obtain⟨a1,a2,a3⟩:=this;rw[Py]at a1;exact⟨by omega,by omega,a3⟩
     . trivial
  . unfold Ie;have hv:=iv s p (d+1) h;have hw:=win.1 s p (d+1) h
    cases hr:Ch f s p (d+1)with
    |bad e q=>trivial
    |ok v q=>
     rw[hr]at hv hw;obtain⟨h1,h2⟩:=hw;obtain⟨k1,_,k3⟩:=hv;have hg:=Dx s q;have e1:Av (acc++ [(k,v)])=Av acc+(1+k.size+v.bulk):=by rw[Pm];simp[Av,Gi]
     have e2:Jf (acc++ [(k,v)]):=Un hi ⟨k3,trivial⟩;simp only
     split
     . rename_i hc;have:=im s _ d _ (Dp hc) e2
       cases hr2:Cc f s (Ay s q+1) d (acc++ [(k,v)])with
       |bad e q=>trivial
       |ok v' q'=>
        rw[hr2]at this;obtain⟨a1,a2,a3⟩:=this;exact⟨by omega,by omega,a3⟩
     split
     . have e3:=Agx (acc++ [(k,v)]);refine⟨?_,by omega, ?_⟩
       . simp only[Su,Val.bulk,Bd,eb];omega
       . simp only[Su,Jg,Mz];exact⟨by omega,trivial,Am3 e2⟩
     . trivial
theorem Ard {k:Int} {b:Bool} {n:Int} {t:ByteArray} {ln on:Nat} (h:Fy k b n t ln on=false):(k=2\/b=false)/\(k=3\/n=0):=by
 unfold Fy at h;by_cases h1:k=1
 . subst h1;simp at h;exact⟨.inr h.1.1.1.1,.inr h.1.1.1.2⟩
 by_cases h2:k=2
 . subst h2;simp at h;exact⟨.inl rfl,.inr h.1.1.1⟩
 by_cases h3:k=3
 . subst h3;simp at h;exact⟨.inr h.1.1.1,.inl rfl⟩
 by_cases h4:k=4
 . subst h4;simp at h;exact⟨.inr h.1.1.1,.inr h.1.1.2⟩
 by_cases h5:k=5
 . subst h5;simp at h;exact⟨.inr h.1.1.1,.inr h.1.1.2⟩
 by_cases h6:k=6
 . subst h6;simp at h;exact⟨.inr h.1.1.1,.inr h.1.1.2⟩
 simp[h1,h2,h3,h4,h5,h6]at h
def Ah1 (c:UInt8):Prop:=c=44\/c=93\/c=125
def Zw:List UInt8->Prop
 | []=>True
 |c::_=>Ah1 c
theorem Ah4: ∀(a b:List UInt8),(∀c ∈ a, ¬Ah1 c)->(∀c ∈ b, ¬Ah1 c)-> ∀{x y:List UInt8},Zw x->Zw y->a++x=b++y->a=b/\x=y
 | [], [],_,_,x,y,_,_,e=>⟨rfl,e⟩
 | [],d::b,_,hb,x,y,hx,_,e=>by
   have e':x=d::(b++y):=e;rw[e']at hx;exact absurd hx (hb d (by simp))
 |c::a, [],ha,_,x,y,_,hy,e=>by
  have e':c::(a++x)=y:=e;rw[<-e']at hy;exact absurd hy (ha c (by simp))
 |c::a,d::b,ha,hb,x,y,hx,hy,e=>by
  obtain⟨h1,h2⟩:=List.cons.inj e;obtain⟨h3,h4⟩:=Ah4 a b (fun z hz=>ha z (by simp[hz])) (fun z hz=>hb z (by simp[hz])) hx hy h2;exact⟨by rw[h1,h3],h4⟩
theorem Nv (u:Nat): ∀c ∈ Gt u,48<=c.toNat/\c.toNat<=57:=by
 induction u using Nat.strongRecOn with
 |_ u ih=>
  intro c hc;by_cases h:u=0
  . subst h;rw[Ke]at hc
    cases hc
  . rw[M6 h]at hc;rcases List.mem_append.1 hc with hc|hc
    . exact ih (u / 10) (by omega) c hc
    . simp only[List.mem_singleton]at hc;subst hc;have: ∀d:Fin 10,48<=(dgt d.val).toNat/\(dgt d.val).toNat<=57:=by decide
      exact this ⟨u % 10,by omega⟩
def Ajf (l:List UInt8):Nat:=l.foldl (fun a c=>a*10+(c.toNat - 48)) 0
theorem St (u:Nat):Ajf (Gt u)=u:=by
 induction u using Nat.strongRecOn with
 |_ u ih=>
  by_cases h:u=0
  . subst h;rw[Ke];rfl
  . rw[M6 h];unfold Ajf;rw[List.foldl_append];have:=ih (u / 10) (by omega);unfold Ajf at this;rw[this];have hd: ∀d:Fin 10,(dgt d.val).toNat - 48=d.val:=by decide
    have:=hd ⟨u % 10,by omega⟩;simp only[List.foldl_cons,List.foldl_nil];simp only at this;omega
def Aol:List UInt8->Int
 | []=>0
 |c::r=>if c=45 then -(Ajf r:Int)else Ajf (c::r)
theorem Za (n:Int):Aol (Lib.itoa n)=n:=by
 by_cases h:n<0
 . have e:Lib.itoa n=45::Gt n.natAbs:=by rw[Lib.itoa,if_pos h,Jn _ (by omega)]
   rw[e];simp only[Aol];rw[if_pos trivial,St];omega
 . by_cases h0:n=0
   . subst h0;have e:Lib.itoa 0= [48]:=by
      rw[Lib.itoa,if_neg (by omega)];exact Lib.decDigits_one (i:=0) (by omega)
     rw[e];rfl
   . have e:Lib.itoa n=Gt n.toNat:=by rw[Lib.itoa,if_neg h,Jn _ (by omega)]
     rw[e];have hr:=Nv n.toNat;have hn:=St n.toNat
     cases hd:Gt n.toNat with
     |nil=>rw[hd]at hn;unfold Aol;have:Ajf []=0:=rfl;omega
     |cons c r=>
      rw[hd]at hr hn;simp only[Aol];have hc:=hr c (by simp);have hc45:c≠45:=by
       intro e;subst e;have:(45:UInt8).toNat=45:=rfl;omega
      rw[if_neg hc45,hn];omega
theorem Alr {n m:Int} (h:Lib.itoa n=Lib.itoa m):n=m:=by rw[<-Za n,h,Za]
theorem N2 (n:Int): ∀c ∈ Lib.itoa n,c.toNat=45\/(48<=c.toNat/\c.toNat<=57):=by
 intro c hc;by_cases h:n<0
 . have e:Lib.itoa n=45::Gt n.natAbs:=by rw[Lib.itoa,if_pos h,Jn _ (by omega)]
   rw[e]at hc;rcases List.mem_cons.1 hc with rfl|hc
   . exact .inl rfl
   . exact .inr (Nv _ c hc)
 . by_cases h0:n=0
   . subst h0;have e:Lib.itoa 0= [48]:=by
      rw[Lib.itoa,if_neg (by omega)];exact Lib.decDigits_one (i:=0) (by omega)
     rw[e]at hc;simp only[List.mem_singleton]at hc;subst hc;exact .inr (by decide)
   . have e:Lib.itoa n=Gt n.toNat:=by rw[Lib.itoa,if_neg h,Jn _ (by omega)]
     rw[e]at hc;exact .inr (Nv _ c hc)
theorem Adp {c:UInt8} (h:c.toNat=45\/(48<=c.toNat/\c.toNat<=57)): ¬Ah1 c:=by
 intro hs;have e1:(44:UInt8).toNat=44:=rfl;have e2:(93:UInt8).toNat=93:=rfl;have e3:(125:UInt8).toNat=125:=rfl;rcases hs with rfl|rfl|rfl<;>omega
def Np (k:Int) (c:UInt8):Prop:=
 (k=1/\c.toNat=110)\/(k=2/\(c.toNat=116\/c.toNat=102))\/(k=3/\(c.toNat=45\/(48<=c.toNat/\c.toNat<=57)))\/(k=4/\c.toNat=34)\/(k=5/\c.toNat=91)\/(k=6/\c.toNat=123)
theorem Ae9 {k:Int} (b:Bool) (n:Int) (t:ByteArray) (l:List Val) (o:List (ByteArray×Val)) (hk:k=1\/k=2\/k=3\/k=4\/k=5\/k=6): ∃c y,Ak (.mk k b n t l o)=c::y/\Np k c:=by
 unfold Np;rcases hk with rfl|rfl|rfl|rfl|rfl|rfl
 . exact⟨110, [117,108,108],by simp[Ak],.inl ⟨rfl,rfl⟩⟩
 . cases b
   . exact⟨102, [97,108,115,101],by simp only[Ak];rfl,.inr (.inl ⟨rfl,.inr rfl⟩)⟩
   . exact⟨116, [114,117,101],by simp only[Ak];rfl,.inr (.inl ⟨rfl,.inl rfl⟩)⟩
 . have e:Ak (.mk 3 b n t l o)=Lib.itoa n:=by simp[Ak]
   rw[e]
   cases hi:Lib.itoa n with
   |nil=>exact absurd hi (Aaw n)
   |cons c y=>
    have:=N2 n c (by rw[hi];simp);exact⟨c,y,rfl,.inr (.inr (.inl ⟨rfl,this⟩))⟩
 . exact⟨34,_,by simp only[Ak];rfl,.inr (.inr (.inr (.inl ⟨rfl,rfl⟩)))⟩
 . exact⟨91,_,by simp only[Ak];rfl,.inr (.inr (.inr (.inr (.inl ⟨rfl,rfl⟩))))⟩
 . exact⟨123,_,by simp only[Ak];rfl,.inr (.inr (.inr (.inr (.inr ⟨rfl,rfl⟩))))⟩
theorem Afa {k:Int} {c:UInt8} (h:Np k c):c≠93/\c≠125:=by
 unfold Np at h;have e2:(93:UInt8).toNat=93:=rfl;have e3:(125:UInt8).toNat=125:=rfl;constructor<;>(rintro rfl;omega)
theorem Ab2 {k k':Int} {c:UInt8} (h:Np k c) (h':Np k' c):k=k':=by
 unfold Np at h h';omega
theorem Ro {k:Int} {b:Bool} {n:Int} {t:ByteArray} {l:List Val} {o:List (ByteArray×Val)} {d:Int} (h:Az (.mk k b n t l o) d=0):k=1\/k=2\/k=3\/k=4\/k=5\/k=6:=(Ii (Bv h).1).1
theorem Tz (v:Val) {d:Int} (h:Az v d=0): ∃c y,Ak v=c::y/\c≠93/\c≠125:=by
 obtain⟨k,b,n,t,l,o⟩:=v;obtain⟨c,y,e,hc⟩:=Ae9 b n t l o (Ro h);exact⟨c,y,e,Afa hc⟩
def Apg (a:Val):Prop:= ∀(b:Val) (d d':Int) (x y:List UInt8),Az a d=0->Az b d'=0->Zw x->Zw y->Ak a++x=Ak b++y->a=b/\x=y
theorem Zx (l:List Val) (x:List UInt8):Zw (Br l false++93::x):=by
 cases l with
 |nil=>exact .inr (.inl rfl)
 |cons v r=>simp only[Br];exact .inl rfl
theorem Ws (l:List (ByteArray×Val)) (x:List UInt8):Zw (By l false++125::x):=by
 cases l with
 |nil=>exact .inr (.inr rfl)
 |cons v r=>simp only[By];exact .inl rfl
theorem Aca: ∀(l l':List Val) (f:Bool),(∀v ∈ l,Apg v)-> ∀{d d':Int} {x y:List UInt8},Df l d=0->Df l' d'=0->Br l f++93::x=Br l' f++93::y->l=l'/\x=y
 | [], [],f,_,d,d',x,y,_,_,e=>⟨rfl,by simpa[Br]using e⟩
 | [],v::r,f,_,d,d',x,y,_,hm',e=>by
   obtain⟨c,z,hc,h1,_⟩:=Tz v (Ha hm' v (by simp))
   exfalso
   cases f
   . simp[Br]at e
   . simp[Br,hc]at e;exact h1 e.1.symm
 |v::r, [],f,_,d,d',x,y,hm,_,e=>by
  obtain⟨c,z,hc,h1,_⟩:=Tz v (Ha hm v (by simp))
  exfalso
  cases f
  . simp[Br]at e
  . simp[Br,hc]at e;exact h1 e.1
 |v::r,v'::r',f,h,d,d',x,y,hm,hm',e=>by
  have e':Ak v++(Br r false++93::x)=Ak v'++(Br r' false++93::y):=by
   cases f
   . simp only[Br]at e;have:=(List.cons.inj (show(44::((Ak v++Br r false)++93::x):List UInt8)=44::((Ak v'++Br r' false)++93::y)from e)).2
     rwa [List.append_assoc,List.append_assoc]at this
   . simp only[Br]at e;have:(Ak v++Br r false)++93::x=(Ak v'++Br r' false)++93::y:=e
     rwa [List.append_assoc,List.append_assoc]at this
  obtain⟨h1,h2⟩:=h v (by simp) v' d d' _ _ (Ha hm v (by simp)) (Ha hm' v' (by simp)) (Zx _ _) (Zx _ _) e';have hmr:Df r d=0:=by
   simp only[Df]at hm
   rwa [if_pos (Ha (l:=v::r) (by simp only[Df];exact hm) v (by simp))]at hm
  have hmr':Df r' d'=0:=by
   simp only[Df]at hm'
   rwa [if_pos (Ha (l:=v'::r') (by simp only[Df];exact hm') v' (by simp))]at hm'
  obtain⟨h3,h4⟩:=Aca r r' false (fun u hu=>h u (by simp[hu])) hmr hmr' h2;exact⟨by rw[h1,h3],h4⟩
theorem Ahf: ∀(l l':List (ByteArray×Val)) (f:Bool),(∀m ∈ l,Apg m.2)-> ∀{d d':Int} {x y:List UInt8},(∀m ∈ l,Aw m.1=true/\Az m.2 d=0)->(∀m ∈ l',Aw m.1=true/\Az m.2 d'=0)->By l f++125::x=By l' f++125::y->l=l'/\x=y
 | [], [],f,_,d,d',x,y,_,_,e=>⟨rfl,by simpa[By]using e⟩
 | [],(k,v)::r,f,_,d,d',x,y,_,_,e=>by
   exfalso
   cases f<;>simp[By,J1,Bp]at e
 |(k,v)::r, [],f,_,d,d',x,y,_,_,e=>by
  exfalso
  cases f<;>simp[By,J1,Bp]at e
 |(k,v)::r,(k',v')::r',f,h,d,d',x,y,hm,hm',e=>by
  have e':Bp k++(58::(Ak v++(By r false++125::x)))=Bp k'++(58::(Ak v'++(By r' false++125::y))):=by
   cases f
   . simp only[By,J1]at e;have:=(List.cons.inj (show(44::(((Bp k++58::Ak v)++By r false)++125::x):List UInt8)=44::(((Bp k'++58::Ak v')++By r' false)++125::y)from e)).2;simpa[List.append_assoc]using this
   . simp only[By,J1]at e;have:((Bp k++58::Ak v)++By r false)++125::x=((Bp k'++58::Ak v')++By r' false)++125::y:=e;simpa[List.append_assoc]using this
  have m1:=hm (k,v) (by simp);have m2:=hm' (k',v') (by simp);simp only at m1 m2;obtain⟨h1,h2⟩:=Zm m1.1 m2.1 e';obtain⟨h3,h4⟩:=h (k,v) (by simp) v' d d' _ _ m1.2 m2.2 (Ws _ _) (Ws _ _) (List.cons.inj h2).2;simp only at h3;obtain⟨h5,h6⟩:=Ahf r r' false (fun u hu=>h u (by simp[hu])) (fun u hu=>hm u (by simp[hu])) (fun u hu=>hm' u (by simp[hu])) h4;exact⟨by rw[h1,h3,h5],h6⟩
theorem Aqx: ∀a,Apg a:=by
 refine Val.ind ?_;intro k b n t l o hl ho v d d' x y hm hm' hx hy e;obtain⟨k',b',n',t',l',o'⟩:=v;obtain⟨hodd,_,hvt,hmL,hmO⟩:=Bv hm;obtain⟨hodd',_,hvt',hmL',hmO'⟩:=Bv hm';obtain⟨c,z,hc,hb⟩:=Ae9 b n t l o (Ro hm);obtain⟨c',z',hc',hb'⟩:=Ae9 b' n' t' l' o' (Ro hm');have hkk:k=k':=by
  rw[hc,hc']at e;have:c=c':=(List.cons.inj e).1;subst this;exact Ab2 hb hb'
 subst hkk;obtain⟨hk,p1,p2,p3⟩:=Ii hodd;obtain⟨_,q1,q2,q3⟩:=Ii hodd';obtain⟨p4,p5⟩:=Ard hodd;obtain⟨q4,q5⟩:=Ard hodd';have nl: ∀{α:Type} {l:List α},l.length=0->l= []:=fun h=>List.length_eq_zero_iff.1 h;clear hc hc' hb hb';rcases hk with rfl|rfl|rfl|rfl|rfl|rfl
 . have e1:Ak (.mk 1 b n t l o)=Ak (.mk 1 b' n' t' l' o'):=by simp[Ak]
   rw[e1]at e;refine⟨?_,List.append_cancel_left e⟩;rw[p4.resolve_left (by decide),q4.resolve_left (by decide),p5.resolve_left (by decide),q5.resolve_left (by decide),p1.resolve_left (by decide),q1.resolve_left (by decide),nl (p2.resolve_left (by decide)),nl (q2.resolve_left (by decide)),nl (p3.resolve_left (by decide)),nl (q3.resolve_left (by decide))]
 . have e1:Ak (.mk 2 b n t l o)=Lib.formatBool b:=by simp[Ak]
   have e2:Ak (.mk 2 b' n' t' l' o')=Lib.formatBool b':=by simp[Ak]
   rw[e1,e2]at e;have hbb:b=b':=by
    cases b<;>cases b'<;>first|rfl|(exfalso;have:=(List.cons.inj e).1;revert this;decide)
   subst hbb;refine⟨?_,List.append_cancel_left e⟩;rw[p5.resolve_left (by decide),q5.resolve_left (by decide),p1.resolve_left (by decide),q1.resolve_left (by decide),nl (p2.resolve_left (by decide)),nl (q2.resolve_left (by decide)),nl (p3.resolve_left (by decide)),nl (q3.resolve_left (by decide))]
 . have e1:Ak (.mk 3 b n t l o)=Lib.itoa n:=by simp[Ak]
   have e2:Ak (.mk 3 b' n' t' l' o')=Lib.itoa n':=by simp[Ak]
   rw[e1,e2]at e;obtain⟨h1,h2⟩:=Ah4 _ _ (fun c hc=>Adp (N2 n c hc)) (fun c hc=>Adp (N2 n' c hc)) hx hy e;have hnn:=Alr h1;subst hnn;refine⟨?_,h2⟩;rw[p4.resolve_left (by decide),q4.resolve_left (by decide),p1.resolve_left (by decide),q1.resolve_left (by decide),nl (p2.resolve_left (by decide)),nl (q2.resolve_left (by decide)),nl (p3.resolve_left (by decide)),nl (q3.resolve_left (by decide))]
 . have e1:Ak (.mk 4 b n t l o)=Bp t:=by simp[Ak]
   have e2:Ak (.mk 4 b' n' t' l' o')=Bp t':=by simp[Ak]
   rw[e1,e2]at e;obtain⟨h1,h2⟩:=Zm hvt hvt' e;subst h1;refine⟨?_,h2⟩;rw[p4.resolve_left (by decide),q4.resolve_left (by decide),p5.resolve_left (by decide),q5.resolve_left (by decide),nl (p2.resolve_left (by decide)),nl (q2.resolve_left (by decide)),nl (p3.resolve_left (by decide)),nl (q3.resolve_left (by decide))]
 . have e1:Ak (.mk 5 b n t l o)=91::(Br l true++ [93]):=by simp[Ak]
   have e2:Ak (.mk 5 b' n' t' l' o')=91::(Br l' true++ [93]):=by simp[Ak]
   rw[e1,e2]at e;have e3:=(List.cons.inj (show(91::((Br l true++ [93])++x):List UInt8)=91::((Br l' true++ [93])++y)from e)).2;rw[List.append_assoc,List.append_assoc]at e3;obtain⟨h1,h2⟩:=Aca l l' true hl hmL hmL' e3;subst h1;refine⟨?_,h2⟩;rw[p4.resolve_left (by decide),q4.resolve_left (by decide),p5.resolve_left (by decide),q5.resolve_left (by decide),p1.resolve_left (by decide),q1.resolve_left (by decide),nl (p3.resolve_left (by decide)),nl (q3.resolve_left (by decide))]
 . have e1:Ak (.mk 6 b n t l o)=123::(By o true++ [125]):=by simp[Ak]
   have e2:Ak (.mk 6 b' n' t' l' o')=123::(By o' true++ [125]):=by simp[Ak]
   rw[e1,e2]at e;have e3:=(List.cons.inj (show(123::((By o true++ [125])++x):List UInt8)=123::((By o' true++ [125])++y)from e)).2;rw[List.append_assoc,List.append_assoc]at e3;obtain⟨h1,h2⟩:=Ahf o o' true ho (Jr hmO) (Jr hmO') e3;subst h1;refine⟨?_,h2⟩;rw[p4.resolve_left (by decide),q4.resolve_left (by decide),p5.resolve_left (by decide),q5.resolve_left (by decide),p1.resolve_left (by decide),q1.resolve_left (by decide),nl (p2.resolve_left (by decide)),nl (q2.resolve_left (by decide))]
theorem Am6 {a b:Val} {d d':Int} (ha:Az a d=0) (hb:Az b d'=0) (e:Ak a=Ak b):a=b:=by
 refine(Aqx a b d d' [] [] ha hb trivial trivial ?_).1;rw[List.append_nil,List.append_nil];exact e
end Go.Proofs.YtmglfdckpjegdaaGreatDoor
