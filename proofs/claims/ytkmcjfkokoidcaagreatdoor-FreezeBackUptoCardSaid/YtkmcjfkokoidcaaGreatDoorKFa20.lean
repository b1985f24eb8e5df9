/- Parts: utf: paired, escape, runesByLetters, plain. Condition: a text of at most 10^9 bytes. -/
import Derived.Test.YtkmcjfkokoidcaaGreatDoorKFa18
set_option maxHeartbeats 20000000
set_option maxRecDepth 100000
namespace Go.Proofs.YtkmcjfkokoidcaaGreatDoor
open Go.RowKit
theorem Abc {r:Nat} (h:Dc r) (rest:List UInt8):Lib.decodeL (Lib.encodeRune (r:Int)++rest)=(r,(Lib.encodeRune (r:Int)).length):=by
 unfold Dc at h;by_cases c1:r<128
 . have e:Lib.encodeRune (r:Int)= [UInt8.ofNat r]:=by
    rw[L8 (by omega) (by omega)];simp
   have hn:(UInt8.ofNat r).toNat=r:=by simp[UInt8.toNat_ofNat'];omega
   rw[e,Db];show Lib.decodeN _ _ _ _ _=(r,1);unfold Lib.decodeN;simp only[List.cons_append,List.nil_append,List.getD_cons_zero,hn];rw[if_pos c1]
 unfold Lib.encodeRune;by_cases c2:r<2048
 . rw[Lib.encodeRuneZ_two (by omega) (by omega)];simp only[List.map_cons,List.map_nil,List.cons_append,List.nil_append,List.length_cons,List.length_nil];have a1:((192+(r:Int) / 64).toNat.toUInt8).toNat=192+r / 64:=by rw[Ig (by omega) (by omega)];omega
   have a2:((128+(r:Int) % 64).toNat.toUInt8).toNat=128+r % 64:=by rw[Ig (by omega) (by omega)];omega
   generalize (192+(r:Int) / 64).toNat.toUInt8=x1 at*
   generalize (128+(r:Int) % 64).toNat.toUInt8=x2 at*
   rw[Db];simp only[List.getD_cons_zero,List.getD_cons_succ,a1,a2,List.length_cons];unfold Lib.decodeN;rw[if_neg (by omega),if_pos (by omega),if_pos (by omega)];exact Prod.ext (by simp only;omega) rfl
 by_cases c3:r<65536
 . rw[Lib.encodeRuneZ_three (by omega)];simp only[List.map_cons,List.map_nil,List.cons_append,List.nil_append,List.length_cons,List.length_nil];have a1:((224+(r:Int) / 4096).toNat.toUInt8).toNat=224+r / 4096:=by rw[Ig (by omega) (by omega)];omega
   have a2:((128+(r:Int) / 64 % 64).toNat.toUInt8).toNat=128+r / 64 % 64:=by rw[Ig (by omega) (by omega)];omega
   have a3:((128+(r:Int) % 64).toNat.toUInt8).toNat=128+r % 64:=by rw[Ig (by omega) (by omega)];omega
   generalize (224+(r:Int) / 4096).toNat.toUInt8=x1 at*
   generalize (128+(r:Int) / 64 % 64).toNat.toUInt8=x2 at*
   generalize (128+(r:Int) % 64).toNat.toUInt8=x3 at*
   rw[Db];simp only[List.getD_cons_zero,List.getD_cons_succ,a1,a2,a3,List.length_cons];unfold Lib.decodeN;have d1:r / 64 / 64=r / 4096:=by omega
   rw[if_neg (by omega),if_neg (by omega),if_pos (by omega),if_pos (by omega)];exact Prod.ext (by simp only;omega) rfl
 . rw[Lib.encodeRuneZ_four (by omega) (by omega)];simp only[List.map_cons,List.map_nil,List.cons_append,List.nil_append,List.length_cons,List.length_nil];have a1:((240+(r:Int) / 262144).toNat.toUInt8).toNat=240+r / 262144:=by rw[Ig (by omega) (by omega)];omega
   have a2:((128+(r:Int) / 4096 % 64).toNat.toUInt8).toNat=128+r / 4096 % 64:=by rw[Ig (by omega) (by omega)];omega
   have a3:((128+(r:Int) / 64 % 64).toNat.toUInt8).toNat=128+r / 64 % 64:=by rw[Ig (by omega) (by omega)];omega
   have a4:((128+(r:Int) % 64).toNat.toUInt8).toNat=128+r % 64:=by rw[Ig (by omega) (by omega)];omega
   generalize (240+(r:Int) / 262144).toNat.toUInt8=x0 at*
   generalize (128+(r:Int) / 4096 % 64).toNat.toUInt8=x1 at*
   generalize (128+(r:Int) / 64 % 64).toNat.toUInt8=x2 at*
   generalize (128+(r:Int) % 64).toNat.toUInt8=x3 at*
   rw[Db];simp only[List.getD_cons_zero,List.getD_cons_succ,a1,a2,a3,a4,List.length_cons];unfold Lib.decodeN;rw[if_neg (by omega),if_neg (by omega),if_neg (by omega),if_pos (by omega),if_pos (by omega)];exact Prod.ext (by simp only;omega) rfl
theorem Wz (r:Int):Lib.encodeRune r≠ []:=by
 unfold Lib.encodeRune Lib.encodeRuneZ
 repeat' split
 all_goals simp
def Ag4 (c:UInt8):Nat:=if c.toNat<58 then c.toNat - 48 else c.toNat - 87
def Anl (c:UInt8):Nat:=if c.toNat=98 then 8 else if c.toNat=116 then 9 else if c.toNat=110 then 10 else if c.toNat=102 then 12 else if c.toNat=114 then 13 else c.toNat
def Uy (l:List UInt8):Nat×Nat:=
 if l.getD 0 0=92 then(if l.getD 1 0=117 then(Ag4 (l.getD 4 0)*16+Ag4 (l.getD 5 0),6)else(Anl (l.getD 1 0),2))else Lib.decodeL l
theorem X4: ∀r:Fin 128,(r.val<32\/r.val=34\/r.val=92)->((Ai r.val).getD 0 0=92/\(((Ai r.val).length=2/\(Ai r.val).getD 1 0≠117/\Anl ((Ai r.val).getD 1 0)=r.val)\/
 ((Ai r.val).length=6/\(Ai r.val).getD 1 0=117/\Ag4 ((Ai r.val).getD 4 0)*16+Ag4 ((Ai r.val).getD 5 0)=r.val))):=by decide+kernel
theorem Li {l x:List UInt8} {i:Nat} (h:i<l.length):(l++x).getD i 0=l.getD i 0:=by
 simp[List.getD,List.getElem?_append_left h]
theorem Xx {r:Nat} (h:Dc r) (x:List UInt8):Uy (Ai r++x)=(r,(Ai r).length):=by
 by_cases hp:32<=r/\r≠34/\r≠92
 . have e:Ai r=Lib.encodeRune r:=by unfold Ai;rw[if_pos hp]
   rw[e];unfold Uy;have h0:(Lib.encodeRune (r:Int)++x).getD 0 0≠92:=by
    have hb:=Gz h
    cases he:Lib.encodeRune (r:Int)with
    |nil=>exact absurd he (Wz r)
    |cons c y=>
     rw[he]at hb;have:=hb c (by simp);show c≠92;intro e';subst e';have e2:(92:UInt8).toNat=92:=rfl;omega
   rw[if_neg h0];exact Abc h x
 . have hr:r<128:=by omega
   obtain⟨h0,h1⟩:=X4 ⟨r,hr⟩ (by simp only;omega);simp only at h0 h1;unfold Uy;rcases h1 with⟨hl,h1,h2⟩|⟨hl,h1,h2⟩
   . rw[Li (by omega),Li (by omega),if_pos h0,if_neg h1,h2,hl]
   . rw[Li (by omega),Li (by omega),Li (by omega),Li (by omega),if_pos h0,if_pos h1,h2,hl]
theorem Vv {r r':Nat} (h:Dc r) (h':Dc r') {x x':List UInt8} (e:Ai r++x=Ai r'++x'):r=r'/\x=x':=by
 have a:=Xx h x;rw[e,Xx h' x']at a;have:r'=r:=congrArg Prod.fst a;subst this;exact⟨rfl,List.append_cancel_left e⟩
theorem Jl {r:Nat} (h:Dc r): ∃c y,Ai r=c::y/\c≠34:=by
 by_cases hp:32<=r/\r≠34/\r≠92
 . have e:Ai r=Lib.encodeRune r:=by unfold Ai;rw[if_pos hp]
   rw[e];have hb:=Gz h
   cases he:Lib.encodeRune (r:Int)with
   |nil=>exact absurd he (Wz r)
   |cons c y=>
    rw[he]at hb;have:=hb c (by simp);refine⟨c,y,rfl,fun e'=> ?_⟩;subst e';have e2:(34:UInt8).toNat=34:=rfl;omega
 . obtain⟨h0,h1⟩:=X4 ⟨r,by omega⟩ (by simp only;omega);simp only at h0 h1
   cases he:Ai r with
   |nil=>rw[he]at h1;simp at h1
   |cons c y=>
    rw[he]at h0;have h0':c=92:=h0;exact⟨c,y,rfl,by rw[h0'];decide⟩
theorem Nh: ∀(L L':List (Nat×Nat)),(∀x ∈ L,Dc x.2)->(∀x ∈ L',Dc x.2)-> ∀{x x':List UInt8},Ae L++34::x=Ae L'++34::x'->L.map (·.2)=L'.map (·.2)/\x=x'
 | [], [],_,_,x,x',e=>by
   have e':(34::x:List UInt8)=34::x':=e;exact⟨rfl,(List.cons.inj e').2⟩
 | [],b::L',_,h',x,x',e=>by
   obtain⟨c,y,hc,hn⟩:=Jl (h' b (by simp));have e':(34::x:List UInt8)=(Ai b.2++Ae L')++34::x':=by
    have:Ae (b::L')=Ai b.2++Ae L':=by simp[Ae]
    rw[<-this];exact e
   rw[hc]at e';exact absurd (List.cons.inj e').1.symm hn
 |a::L, [],h,_,x,x',e=>by
  obtain⟨c,y,hc,hn⟩:=Jl (h a (by simp));have e':(Ai a.2++Ae L)++34::x=(34::x':List UInt8):=by
   have:Ae (a::L)=Ai a.2++Ae L:=by simp[Ae]
   rw[<-this];exact e
  rw[hc]at e';exact absurd (List.cons.inj e').1 hn
 |a::L,b::L',h,h',x,x',e=>by
  have e1:Ae (a::L)=Ai a.2++Ae L:=by simp[Ae]
  have e2:Ae (b::L')=Ai b.2++Ae L':=by simp[Ae]
  rw[e1,e2,List.append_assoc,List.append_assoc]at e;obtain⟨h1,h2⟩:=Vv (h a (by simp)) (h' b (by simp)) e;obtain⟨h3,h4⟩:=Nh L L' (fun y hy=>h y (by simp[hy])) (fun y hy=>h' y (by simp[hy])) h2;exact⟨by rw[List.map_cons,List.map_cons,h1,h3],h4⟩
theorem Mj: ∀(n:Nat) (l:List UInt8) (p:Nat),l.length<=n->Lib.validD l=true->(Ax n l p).flatMap (fun x=>Lib.encodeRune (x.2:Int))=l
 |0,l,p,h,_=>by
  have:l= []:=List.length_eq_zero_iff.1 (by omega);subst this;rfl
 |n+1,l,p,h,hv=>by
  by_cases hl:l= []
  . subst hl;simp[Ax]
  . rw[Kx hl]at hv
    split at hv
    . cases hv
    rename_i hg;have hw:=Lib.decodeL_width l;have hle:=Lib.decodeL_le l hl;simp only[Ax];rw[if_neg hl,if_neg hg,List.flatMap_cons,Lib.encode_decode l hl hg,Mj n _ _ (by rw[List.length_drop];omega) hv];exact List.take_append_drop _ _
theorem Air {s s':ByteArray} (h:A9 s=true) (h':A9 s'=true) (e:(Bw s).map (·.2)=(Bw s').map (·.2)):s=s':=by
 have a:=Mj s.size s.data.toList 0 (by rw[Lp];exact Nat.le_refl _) h;have b:=Mj s'.size s'.data.toList 0 (by rw[Lp];exact Nat.le_refl _) h';have key: ∀L:List (Nat×Nat),L.flatMap (fun x=>Lib.encodeRune (x.2:Int))=(L.map (·.2)).flatMap (fun r=>Lib.encodeRune ((r:Nat):Int)):=by
  intro L
  induction L with
  |nil=>rfl
  |cons x L ih=>simp[List.flatMap_cons,ih]
 rw[key]at a b;have e':s.data.toList=s'.data.toList:=by
  rw[<-a,<-b];unfold Bw at e;rw[e]
 exact ByteArray.ext (Array.ext' e')
theorem Xw {s s':ByteArray} (h:A9 s=true) (h':A9 s'=true) {x x':List UInt8} (e:Bl s++x=Bl s'++x'):s=s'/\x=x':=by
 unfold Bl at e;rw[List.append_assoc,List.append_assoc]at e;have e':Ae (Bw s)++34::x=Ae (Bw s')++34::x':=(List.cons.inj e).2;obtain⟨h1,h2⟩:=Nh _ _ (Dw _ _ _) (Dw _ _ _) e';exact⟨Air h h' h1,h2⟩
theorem Amj (r:Int):(Lib.encodeRune r).length<=4:=by
 have:=(Lib.encodeRuneZ_length r).2;unfold Lib.encodeRune
 rwa [List.length_map]
theorem Aj7 {r:Int} (h0:0<=r) (h:r<128):(Lib.encodeRune r).length=1:=by
 unfold Lib.encodeRune;rw[List.length_map,Lib.encodeRuneZ_one h0 (by omega)];rfl
theorem Abk {l:List UInt8} {r n:Nat} (h:Kl l=.ok r n):(Lib.encodeRune (r:Int)).length<=n:=by
 have h2:=(Tb h).2.2.1;have h4:=Amj (r:Int);by_cases hn:4<=n
 . omega
 have hr:r<128\/6<=n:=by
  unfold Kl at h
  cases hu:F5 l with
  |some u=>
   rw[hu]at h;simp only[Jg]at h
   split at h
   . simp only[Rd.ok.injEq]at h;omega
   split at h
   . cases h
   cases hm:F5 (l.drop 6)with
   |none=>rw[hm]at h;cases h
   |some m=>
    rw[hm]at h;simp only at h
    split at h
    . cases h
    . simp only[Rd.ok.injEq]at h;omega
  |none=>
   rw[hu]at h;simp only[Vn]at h
   cases hc:l[1]? with
   |none=>rw[hc]at h;cases h
   |some c=>
    rw[hc]at h;simp only at h
    cases he:Kz c with
    |none=>rw[he]at h;cases h
    |some x=>
     rw[he]at h;simp only[Rd.ok.injEq]at h;have:x<=92:=by
      unfold Kz at he
      repeat' split at he
      all_goals first|(simp at he;omega)|cases he
     omega
 rcases hr with hr|hr
 . have:=Aj7 (r:=(r:Int)) (by omega) (by omega);omega
 . omega
def O6 (rs:List Nat):List UInt8:=rs.flatMap fun(r:Nat)=>Lib.encodeRune (r:Int)
theorem Yf: ∀{rs:List Nat},(∀r ∈ rs,Dc r)->Lib.validD (O6 rs)=true
 | [],_=>rfl
 |r::rs,h=>by
  have e:O6 (r::rs)=Lib.encodeRune (r:Int)++O6 rs:=rfl;rw[e,Afu (h r (by simp))];exact Yf fun x hx=>h x (by simp[hx])
theorem Tp {l:List UInt8} (hl:l≠ []) (h: ¬((Lib.decodeL l).1=65533/\(Lib.decodeL l).2=1)):Dc (Lib.decodeL l).1:=by
 have h1:=Pu l;rw[Oz l hl,if_neg h]at h1;have:=Lib.decodeL_width l;unfold Dc;simp only at h1;omega
theorem Aae: ∀(f:Nat) (s:List UInt8) (i:Nat) (out a:List UInt8) (q:Nat),Ir f s i out=.ok a q->(∃rs,(∀r ∈ rs,Dc r)/\out=O6 rs)->(∃rs,(∀r ∈ rs,Dc r)/\a=O6 rs)/\a.length+i+1<=out.length+q
 |0,s,i,out,a,q,h,_=>by unfold Ir at h;cases h
 |f+1,s,i,out,a,q,h,ho=>by
  unfold Ir at h
  cases hc:s[i]? with
  |none=>rw[hc]at h;cases h
  |some c=>
   rw[hc]at h;have hi:=Cz hc;have hne:s.drop i≠ []:=by rw[Iv hc];simp
   simp only at h
   split at h
   . simp only[Rd.ok.injEq]at h;obtain⟨rfl,rfl⟩:=h;exact⟨ho,by omega⟩
   split at h
   . cases h
   obtain⟨rs,h1,h2⟩:=ho
   split at h
   . cases he:Kl (s.drop i)with
     |bad e x=>rw[he]at h;cases h
     |ok r n=>
      rw[he]at h;have hok:=Tb he;have hlen:=Abk he;have hn:Dc r:=⟨hok.1,hok.2.1⟩;obtain⟨k1,k2⟩:=Aae f s _ _ _ _ h ⟨rs++ [r],fun x hx=>by
       rcases List.mem_append.1 hx with hx|hx
       . exact h1 x hx
       . simp only[List.mem_singleton]at hx;rw[hx];exact hn,by simp[O6,h2]⟩
      rw[List.length_append]at k2;exact⟨k1,by omega⟩
   split at h
   . cases h
   . rename_i hd;have hn:=Tp hne hd;obtain⟨k1,k2⟩:=Aae f s _ _ _ _ h ⟨rs++ [(Lib.decodeL (s.drop i)).1],fun x hx=>by
      rcases List.mem_append.1 hx with hx|hx
      . exact h1 x hx
      . simp only[List.mem_singleton]at hx;rw[hx];exact hn,by simp[O6,h2,Lib.encode_decode _ hne hd]⟩
     rw[List.length_append,List.length_take]at k2;exact⟨k1,by omega⟩
theorem Qr {s:List UInt8} {p q:Nat} {a:List UInt8} (h:Eg s p=.ok a q):Lib.validD a=true/\a.length+p+2<=q:=by
 unfold Eg at h
 split at h
 . obtain⟨⟨rs,h1,h2⟩,h3⟩:=Aae _ _ _ _ _ _ h ⟨[],fun r hr=>(by cases hr),rfl⟩;rw[h2];refine⟨Yf h1, ?_⟩;rw[<-h2];simp only[List.length_nil]at h3;omega
 . cases h
theorem Ach {s:List UInt8} {p q:Nat} {n:Int} (h:Dg s p=.ok n q): -9223372036854775808<=n/\n<=9223372036854775807:=by
 unfold Dg N6 Fs at h
 repeat' split at h
 all_goals first|(simp only[Rd.ok.injEq]at h;omega)|cases h
theorem Wt: ∀(a b:List Val),Bf (a++b)=Bf a+Bf b
 | [],b=>by simp[Bf]
 |x::r,b=>by simp only[List.cons_append,Bf,Wt r b];omega
theorem Agj: ∀{a b:List Val},Pl a->Pl b->Pl (a++b)
 | [],_,_,h=>h
 |x::r,b,h,h'=>by
  simp only[List.cons_append,Pl]at h ⊢;exact⟨h.1,Agj h.2 h'⟩
theorem Afp (l:List (ByteArray×Val)):Ab (G8 l)<=Ab l:=by
 unfold G8
 cases h:D8 l []with
 |none=>simp[Ab]
 |some o=>have:=R5 h;simp only[Ab]at this;simp only[Option.getD_some];omega
theorem Alw {l:List (ByteArray×Val)} (hi:Ew l):Ew (G8 l):=by
 unfold G8
 cases h:D8 l []with
 |none=>simp[Ew]
 |some o=>exact Xl h (by simp[Ew]) hi
theorem eb:Fl.size=0:=rfl
def Rd.sized (base p:Nat) (C:Nat):Rd Val->Prop
 | .ok v q=>v.bulk+base<=C+6*(q - p)/\p<q/\J8 v
 | .bad _ _=>True
theorem Aiu: ∀(f:Nat),(∀s p d,p<=s.length->(Cc f s p d).sized 0 p 0)/\(∀s p d,p<s.length->(Ka f s p d).sized 0 p 0)/\(∀s p d,p<s.length->(Oh f s p d).sized 0 p 0)/\
 (∀s p d acc,p<=s.length->Pl acc->(D7 f s p d acc).sized 0 p (6+Bf acc))/\(∀s p d acc,p<=s.length->Ew acc->(By f s p d acc).sized 0 p (6+Ab acc))/\
 (∀s p d acc k,p<=s.length->Ew acc->(Fy f s p d acc k).sized 0 p (7+Ab acc+k.size)):=by
 intro f
 induction f with
 |zero=>
  refine⟨fun s p d h=> ?_,fun s p d h=> ?_,fun s p d h=> ?_,fun s p d acc h _=> ?_,fun s p d acc h _=> ?_,fun s p d acc k h _=> ?_⟩
  . unfold Cc;trivial
  . unfold Ka;trivial
  . unfold Oh;trivial
  . unfold D7;trivial
  . unfold By;trivial
  . unfold Fy;trivial
 |succ f ih=>
  obtain⟨iv,il,io,ii,im,ik⟩:=ih;have win:=It f;have lift: ∀{p p' q:Nat} {r:Rd Val},p<=p'->r.sized 0 p' 0->r.sized 0 p 0:=by
   intro p p' q r hp hr
   cases r with
   |ok v q=>exact⟨by have:=hr.1;omega,by have:=hr.2.1;omega,hr.2.2⟩
   |bad e q=>trivial
  refine⟨fun s p d h=> ?_,fun s p d h=> ?_,fun s p d h=> ?_,fun s p d acc h hi=> ?_,fun s p d acc h hi=> ?_,fun s p d acc k h hi=> ?_⟩
  . unfold Cc;have hp:=Fg h;have hg:=C5 s p
    cases hc:s[Aq s p]? with
    |none=>trivial
    |some c=>
     have hl:=Cz hc;simp only
     split
     . trivial
     split
     . trivial
     split
     . exact lift (q:=0) hg (il s _ d hl)
     split
     . exact lift (q:=0) hg (io s _ d hl)
     split
     . cases hu:Eg s (Aq s p)with
       |bad e q=>trivial
       |ok a q=>
        obtain⟨_,h2⟩:=Qr hu;refine⟨?_,by omega,by simp[Ade,J8,Pl,Ew]⟩;simp only[Ade,Val.bulk,Bf,Ab,Oc];omega
     split
     . unfold Dh
       split
       . refine⟨?_,by simp only[List.length_cons,List.length_nil];omega,by simp[Nb,J8,Pl,Ew]⟩;simp only[Nb,Val.bulk,Bf,Ab,eb,List.length_cons,List.length_nil];omega
       . trivial
     split
     . unfold Dh
       split
       . refine⟨?_,by simp only[List.length_cons,List.length_nil];omega,by simp[Ia,J8,Pl,Ew]⟩;simp only[Ia,Val.bulk,Bf,Ab,eb,List.length_cons,List.length_nil];omega
       . trivial
     split
     . unfold Dh
       split
       . refine⟨?_,by simp only[List.length_cons,List.length_nil];omega,by simp[Ia,J8,Pl,Ew]⟩;simp only[Ia,Val.bulk,Bf,Ab,eb,List.length_cons,List.length_nil];omega
       . trivial
     . have hw:=Mo hl
       cases hu:Dg s (Aq s p)with
       |bad e q=>trivial
       |ok n q=>
        have hn:=Ach hu;rw[hu]at hw;have:=hw.1;refine⟨?_,by omega,by simp only[Q5,J8,Pl,Ew];exact⟨hn,trivial,trivial⟩⟩;simp only[Q5,Val.bulk,Bf,Ab,eb];omega
  . unfold Ka;have hp:=Fg (s:=s) (p:=p+1) h;have hg:=C5 s (p+1)
    split
    . refine⟨?_,by omega,by simp[Sv,J8,Pl,Ew]⟩;simp only[Sv,Val.bulk,Bf,Ab,eb];omega
    . have:=ii s _ d [] hp (by simp[Pl])
      cases hr:D7 f s (Aq s (p+1)) d []with
      |bad e q=>trivial
      |ok v q=>
       rw[hr]at this;obtain⟨h1,h2,h3⟩:=this;simp only[Bf]at h1;exact⟨by omega,by omega,h3⟩
  . unfold Oh;have hp:=Fg (s:=s) (p:=p+1) h;have hg:=C5 s (p+1)
    split
    . refine⟨?_,by omega,by simp[Rc,J8,Pl,Ew]⟩;simp only[Rc,Val.bulk,Bf,Ab,eb];omega
    . have:=im s _ d [] hp (by simp[Ew])
      cases hr:By f s (Aq s (p+1)) d []with
      |bad e q=>trivial
      |ok v q=>
       rw[hr]at this;obtain⟨h1,h2,h3⟩:=this;simp only[Ab]at h1;exact⟨by omega,by omega,h3⟩
  . unfold D7;have hv:=iv s p (d+1) h;have hw:=win.1 s p (d+1) h
    cases hr:Cc f s p (d+1)with
    |bad e q=>trivial
    |ok v q=>
     rw[hr]at hv hw;obtain⟨h1,h2⟩:=hw;obtain⟨k1,_,k3⟩:=hv;have hg:=C5 s q;have e1:Bf (acc++ [v])=Bf acc+v.bulk:=by rw[Wt];simp[Bf]
     have e2:Pl (acc++ [v]):=Agj hi ⟨k3,trivial⟩;simp only
     split
     . rename_i hc;have:=ii s _ d _ (Cz hc) e2
       cases hr2:D7 f s (Aq s q+1) d (acc++ [v])with
       |bad e q=>trivial
       |ok v' q'=>
        rw[hr2]at this;obtain⟨a1,a2,a3⟩:=this;exact⟨by omega,by omega,a3⟩
     split
     . refine⟨?_,by omega, ?_⟩
       . simp only[Sv,Val.bulk,Ab,eb];omega
       . simp only[Sv,J8,Ew];exact⟨by omega,e2,trivial⟩
     . trivial
  . unfold By;have hp0:=Fg h;have hg0:=C5 s p;have hw:=Hs hp0
    cases hr:Eg s (Aq s p)with
    |bad e q=>trivial
    |ok k q=>
     rw[hr]at hw;have hu:=(Qr hr).2;have hg:=C5 s q;simp only
     split
     . trivial
     split
     . rename_i hc;have:=ik s _ d acc ⟨k.toArray⟩ (Cz hc) hi
       cases hr2:Fy f s (Aq s q+1) d acc ⟨k.toArray⟩with
       |bad e q=>trivial
       |ok v' q'=>
        rw[hr2]at this;obtain⟨a1,a2,a3⟩:=this;rw[Oc]at a1;exact⟨by omega,by omega,a3⟩
     . trivial
  . unfold Fy;have hv:=iv s p (d+1) h;have hw:=win.1 s p (d+1) h
    cases hr:Cc f s p (d+1)with
    |bad e q=>trivial
    |ok v q=>
     rw[hr]at hv hw;obtain⟨h1,h2⟩:=hw;obtain⟨k1,_,k3⟩:=hv;have hg:=C5 s q;have e1:Ab (acc++ [(k,v)])=Ab acc+(1+k.size+v.bulk):=by rw[Da];simp[Ab,Ib]
     have e2:Ew (acc++ [(k,v)]):=Te hi ⟨k3,trivial⟩;simp only
     split
     . rename_i hc;have:=im s _ d _ (Cz hc) e2
       cases hr2:By f s (Aq s q+1) d (acc++ [(k,v)])with
       |bad e q=>trivial
       |ok v' q'=>
        rw[hr2]at this;obtain⟨a1,a2,a3⟩:=this;exact⟨by omega,by omega,a3⟩
     split
     . have e3:=Afp (acc++ [(k,v)]);refine⟨?_,by omega, ?_⟩
       . simp only[Rc,Val.bulk,Bf,eb];omega
       . simp only[Rc,J8,Pl];exact⟨by omega,trivial,Alw e2⟩
     . trivial
attribute [local go_sem] Oper.semAt_some
def Su (r:Rd Nat):Value:=match r with
 | .ok r n=> .tuple #[.int .i32 r,.int .i64 n,.int .i64 0]
 | .bad e _=> .tuple #[.int .i32 0,.int .i64 0,.int .i64 e]
theorem Bj {fn:Func} {t u v:Tmp} (h:fn.results= #[.tmp t,.tmp u,.tmp v]) (tmps:Array Value) (P:Program) (w:World):
 (results fn tmps).run P w=.ok (.tuple #[tmps.getD t undef,tmps.getD u undef,tmps.getD v undef]) w:=by simp[results,h]
theorem Zx (r:Nat) (t:ByteArray) (w:World) (hr:r<65536) (hs:t.size<=1000000000):Calls Tryz.prog 315 #[.int .i32 r,.string t] w fun e w'=>e=.returned (Su (Jg r t.data.toList))/\w=w':=by
 have hU:=fun W=>Vc t W hs;by_cases h1:r<55296
 . have e:Jg r t.data.toList=.ok r 6:=by unfold Jg;rw[if_pos (.inl h1)]
   rw[e];have l:(r:Int)<55296:=by omega
   clear e hU;go_enter Tryz.func315,Tryz.ntmps315;go_wp2;exact bodyPost_ret (Bj rfl _ _ _) rfl ⟨rfl,rfl⟩
 have l1: ¬((r:Int)<55296):=by omega
 by_cases h2:57344<=r
 . have e:Jg r t.data.toList=.ok r 6:=by unfold Jg;rw[if_pos (.inr h2)]
   rw[e];have l:(57344:Int)<=(r:Int):=by omega
   clear e hU;go_enter Tryz.func315,Tryz.ntmps315;go_wp2;exact bodyPost_ret (Bj rfl _ _ _) rfl ⟨rfl,rfl⟩
 have l2: ¬((57344:Int)<=(r:Int)):=by omega
 by_cases h3:56320<=r
 . have e:Jg r t.data.toList=.bad 3 0:=by unfold Jg;rw[if_neg (by omega),if_pos h3]
   rw[e];have l:(56320:Int)<=(r:Int):=by omega
   clear e hU;go_enter Tryz.func315,Tryz.ntmps315;go_wp2;exact bodyPost_ret (Bj rfl _ _ _) rfl ⟨rfl,rfl⟩
 have l3: ¬((56320:Int)<=(r:Int)):=by omega
 have e0:Jg r t.data.toList=match F5 t.data.toList with
  |none=> .bad 3 0
  |some m=>if m<56320\/57344<=m then .bad 3 0 else .ok (65536+1024*(r - 55296)+(m - 56320)) 12:=by unfold Jg;rw[if_neg (by omega),if_neg h3];rfl
 rw[e0];clear e0
 cases hu:F5 t.data.toList with
 |none=>
  simp only[hu,Adf]at hU;clear hu;have HU:=qz hU;clear hU;go_enter Tryz.func315,Tryz.ntmps315;go_wp2_with (fail);(with_reducible refine(HU.out _).mono ?_);rintro e w1 ⟨rfl,rfl⟩;go_wp2;exact bodyPost_ret (Bj rfl _ _ _) rfl ⟨rfl,rfl⟩
 |some m=>
  have hm:=(Qq hu).1;simp only[hu,Adf]at hU;clear hu;have HU:=qz hU;clear hU;simp only;by_cases h4:m<56320
  . rw[if_pos (.inl h4)];have l:(m:Int)<56320:=by omega
    clear h4;go_enter Tryz.func315,Tryz.ntmps315;go_wp2_with (fail);(with_reducible refine(HU.out _).mono ?_);rintro e w1 ⟨rfl,rfl⟩;go_wp2;exact bodyPost_ret (Bj rfl _ _ _) rfl ⟨rfl,rfl⟩
  have l4: ¬((m:Int)<56320):=by omega
  by_cases h5:57344<=m
  . rw[if_pos (.inr h5)];have l:(57344:Int)<=(m:Int):=by omega
    clear h5;go_enter Tryz.func315,Tryz.ntmps315;go_wp2_with (fail);(with_reducible refine(HU.out _).mono ?_);rintro e w1 ⟨rfl,rfl⟩;go_wp2;exact bodyPost_ret (Bj rfl _ _ _) rfl ⟨rfl,rfl⟩
  have l5: ¬((57344:Int)<=(m:Int)):=by omega
  rw[if_neg (by omega)];have b1:(55296:Int)<=(r:Int):=by omega
  have b2:(r:Int)<56320:=by omega
  have b3:(56320:Int)<=(m:Int):=by omega
  have b4:(m:Int)<57344:=by omega
  have d4:decide ((m:Int)<56320)=false:=decide_eq_false (by omega);have d5:decide ((57344:Int)<=(m:Int))=false:=decide_eq_false (by omega);have eq:(((65536+1024*(r - 55296)+(m - 56320):Nat)):Int)=65536+1024*((r:Int) - 55296)+((m:Int) - 56320):=by omega
  simp only[Su];rw[eq];clear eq h1 h2 h3 h4 h5 l4 l5;go_enter Tryz.func315,Tryz.ntmps315;go_wp2_with (fail);(with_reducible refine(HU.out _).mono ?_);rintro e w1 ⟨rfl,rfl⟩;go_wp2;exact bodyPost_ret (Bj rfl _ _ _) rfl ⟨rfl,rfl⟩
def D5:List (Int×Int):= [(34,34),(92,92),(47,47),(98,8),(102,12),(110,10),(114,13),(116,9)]
theorem Z7 (w:World):Calls Tryz.prog 287 #[] w fun e w'=>e=.returned (.map (some w.heap.size))/\H9 w D5=w':=by
 have hmm:(Instr.makeMap 296 none).run Tryz.prog w=.ok (.map (some w.heap.size)) (H9 w []):=run_makeMap _ w;have u1:=Cr w [] 34 34 rfl;have u2:=Cr w [(34,34)] 92 92 rfl;have u3:=Cr w [(34,34),(92,92)] 47 47 rfl;have u4:=Cr w [(34,34),(92,92),(47,47)] 98 8 rfl;have u5:=Cr w [(34,34),(92,92),(47,47),(98,8)] 102 12 rfl;have u6:=Cr w [(34,34),(92,92),(47,47),(98,8),(102,12)] 110 10 rfl;have u7:=Cr w [(34,34),(92,92),(47,47),(98,8),(102,12),(110,10)] 114 13 rfl;have u8:=Cr w [(34,34),(92,92),(47,47),(98,8),(102,12),(110,10),(114,13)] 116 9 rfl;simp only[List.nil_append,List.cons_append]at u1 u2 u3 u4 u5 u6 u7 u8;go_enter Tryz.func287,Tryz.ntmps287;go_wp2;go_ret;exact⟨rfl,rfl⟩
theorem Z6 (c:UInt8):D6 (c.toNat:Int) D5=(Kz c).map (fun n:Nat=>(n:Int)):=by
 have: ∀c:Fin 256,D6 ((UInt8.ofNat c.val).toNat:Int) D5=(Kz (UInt8.ofNat c.val)).map (fun n:Nat=>(n:Int)):=by decide+kernel
 have h:=this ⟨c.toNat,c.toNat_lt⟩;simpa using h
theorem Y7 (t:ByteArray) (mb:Nat) (w:World) (hs:t.size<=1000000000) (hm:w.heap[mb]? =some (.map (Jk D5 0).toArray D5.length)):Calls Tryz.prog 288 #[.string t,.map (some mb)] w fun e w'=>e=.returned (Su (Kl t.data.toList))/\w=w':=by
 have hU:=fun W=>Vc t W hs
 cases hu:F5 t.data.toList with
 |some r=>
  obtain⟨hr,h6⟩:=Qq hu;rw[Al]at h6;have hext:(t.extract 6 t.size).data.toList=t.data.toList.drop 6:=by
   rw[Lib.extract_data];exact List.take_of_length_le (by rw[List.length_drop,Al];omega)
  have hP:=fun W=>Zx r (t.extract 6 t.size) W hr (by rw[ByteArray.size_extract];omega);have e0:Kl t.data.toList=Jg r (t.data.toList.drop 6):=by unfold Kl;rw[hu]
  rw[e0];rw[hext]at hP;simp only[hu,Adf]at hU;have l6:(6:Int)<=(t.size:Int):=by omega
  clear hu hext e0;generalize Jg r (t.data.toList.drop 6)=X at hP ⊢
  cases X with
  |ok r' n'=>
   simp only[Su]at hP ⊢;obtain⟨HU,HP⟩:=hid2 hU hP;clear hU hP;clear hm;go_enter Tryz.func288,Tryz.ntmps288;go_wp2_with (fail);(with_reducible refine(HU.out _).mono ?_);rintro e w1 ⟨rfl,rfl⟩;go_wp2_with (fail);(with_reducible refine(HP.out _).mono ?_);rintro e w1 ⟨rfl,rfl⟩;go_wp2;exact bodyPost_ret (Bj rfl _ _ _) rfl ⟨rfl,rfl⟩
  |bad r' n'=>
   simp only[Su]at hP ⊢;obtain⟨HU,HP⟩:=hid2 hU hP;clear hU hP;clear hm;go_enter Tryz.func288,Tryz.ntmps288;go_wp2_with (fail);(with_reducible refine(HU.out _).mono ?_);rintro e w1 ⟨rfl,rfl⟩;go_wp2_with (fail);(with_reducible refine(HP.out _).mono ?_);rintro e w1 ⟨rfl,rfl⟩;go_wp2;exact bodyPost_ret (Bj rfl _ _ _) rfl ⟨rfl,rfl⟩
 |none=>
  have e0:Kl t.data.toList=Vn t.data.toList:=by unfold Kl;rw[hu]
  rw[e0];simp only[hu,Adf]at hU;clear hu e0;by_cases h1:1<t.size
  . obtain⟨c,hc⟩: ∃c,t[1]=c:=⟨_,rfl⟩;have hg:t.data.toList[1]? =some c:=by rw[Dx t h1,hc]
    have hcl:=Dr c;have hlk:=U2 w mb D5 c.toNat hm;rw[Z6]at hlk;have l1:(1:Int)<(t.size:Int):=by omega
    unfold Vn;rw[hg];simp only
    cases he:Kz c with
    |none=>
     rw[he]at hlk;simp only[Option.map_none,Option.getD_none,Option.isSome_none,Su]at hlk ⊢;clear he hg;have HU:=qz hU;clear hU;clear hm;go_enter Tryz.func288,Tryz.ntmps288;go_wp2_with (fail);(with_reducible refine(HU.out _).mono ?_);rintro e w1 ⟨rfl,rfl⟩;go_wp2;exact bodyPost_ret (Bj rfl _ _ _) rfl ⟨rfl,rfl⟩
    |some x=>
     rw[he]at hlk;simp only[Option.map_some,Option.getD_some,Option.isSome_some,Su]at hlk ⊢;clear he hg;have HU:=qz hU;clear hU;clear hm;go_enter Tryz.func288,Tryz.ntmps288;go_wp2_with (fail);(with_reducible refine(HU.out _).mono ?_);rintro e w1 ⟨rfl,rfl⟩;go_wp2;exact bodyPost_ret (Bj rfl _ _ _) rfl ⟨rfl,rfl⟩
  . have e0:Vn t.data.toList=.bad 4 0:=by
     unfold Vn;rw[List.getElem?_eq_none (by rw[Al];omega)]
    have l1: ¬((1:Int)<(t.size:Int)):=by omega
    rw[e0];simp only[Su];clear e0;have HU:=qz hU;clear hU;clear hm;go_enter Tryz.func288,Tryz.ntmps288;go_wp2_with (fail);(with_reducible refine(HU.out _).mono ?_);rintro e w1 ⟨rfl,rfl⟩;go_wp2;exact bodyPost_ret (Bj rfl _ _ _) rfl ⟨rfl,rfl⟩
def E0:Nat->List UInt8->Nat
 |0,_=>0
 |f+1,l=>if l= []then 0 else if(Lib.decodeL l).1=65533/\(Lib.decodeL l).2=1 then 0 else if 32<=(Lib.decodeL l).1/\(Lib.decodeL l).1≠34/\(Lib.decodeL l).1≠92 then(Lib.decodeL l).2+E0 f (l.drop (Lib.decodeL l).2)else 0
def I4 (r:Nat):Bool:=decide (32<=r/\r≠34/\r≠92)
def Gm (z:Nat):List (Nat×Nat)->Nat
 | []=>z
 |x::r=>if I4 x.2=true then Gm (x.1+(Lib.encodeRune (x.2:Int)).length) r else x.1
theorem Afn {r:Nat} (h:Dc r):Lib.runeLen (r:Int)=((Lib.encodeRune (r:Int)).length:Nat):=by
 unfold Dc at h;unfold Lib.encodeRune Lib.runeLen;rw[List.length_map];by_cases h1:r<=127
 . rw[Lib.encodeRuneZ_one (by omega) (by omega),if_neg (by omega),if_pos (by omega)];rfl
 by_cases h2:r<=2047
 . rw[Lib.encodeRuneZ_two (by omega) (by omega),if_neg (by omega),if_neg (by omega),if_pos (by omega)];rfl
 by_cases h3:r<=65535
 . rw[Lib.encodeRuneZ_three (by omega),if_neg (by omega),if_neg (by omega),if_neg (by omega),if_neg (by omega),if_pos (by omega)];rfl
 . rw[Lib.encodeRuneZ_four (by omega) (by omega),if_neg (by omega),if_neg (by omega),if_neg (by omega),if_neg (by omega),if_neg (by omega),if_pos (by omega)];rfl
theorem R7: ∀(n:Nat) (l:List UInt8) (p:Nat),Gm p (Ax n l p)=p+E0 n l
 |0,l,p=>by simp[Ax,Gm,E0]
 |n+1,l,p=>by
  simp only[Ax,E0];by_cases h1:l= []
  . rw[if_pos h1,if_pos h1];rfl
  rw[if_neg h1,if_neg h1];by_cases h2:(Lib.decodeL l).1=65533/\(Lib.decodeL l).2=1
  . rw[if_pos h2,if_pos h2];rfl
  rw[if_neg h2,if_neg h2];simp only[Gm];by_cases h3:32<=(Lib.decodeL l).1/\(Lib.decodeL l).1≠34/\(Lib.decodeL l).1≠92
  . have e:I4 (Lib.decodeL l).1=true:=by unfold I4;exact decide_eq_true h3
    have hl:(Lib.encodeRune ((Lib.decodeL l).1:Int)).length=(Lib.decodeL l).2:=by
     rw[Lib.encode_decode l h1 h2,List.length_take];have:=Lib.decodeL_le l h1;omega
    rw[if_pos e,if_pos h3,hl,R7 n _ _];omega
  . have e:I4 (Lib.decodeL l).1=false:=by unfold I4;exact decide_eq_false h3
    rw[e,if_neg (by decide),if_neg h3];rfl
theorem Xs: ∀(n:Nat) (l:List UInt8),E0 n l<=l.length
 |0,l=>Nat.zero_le _
 |n+1,l=>by
  simp only[E0]
  split
  . exact Nat.zero_le _
  rename_i h1
  split
  . exact Nat.zero_le _
  split
  . have:=Lib.decodeL_le l h1;have h2:=Xs n (l.drop (Lib.decodeL l).2);rw[List.length_drop]at h2;omega
  . exact Nat.zero_le _
def Aaf:List (Nat×Nat)->Nat
 | []=>0
 |x::r=>match r with
  | []=>x.1+(Lib.encodeRune (x.2:Int)).length
  |y::r'=>Aaf (y::r')
theorem Ai4 (l:List (Nat×Nat)) (x:Nat×Nat):Aaf (l++ [x])=x.1+(Lib.encodeRune (x.2:Int)).length:=by
 induction l with
 |nil=>rfl
 |cons a l ih=>
  cases l with
  |nil=>rfl
  |cons b l=>exact ih
theorem Pe: ∀(l r:List (Nat×Nat)) (z:Nat),(∀x ∈ l,I4 x.2=true)->Gm z (l++r)=Gm (if l= []then z else Aaf l) r
 | [],r,z,_=>by simp
 |a::l,r,z,h=>by
  rw[List.cons_append,Gm,if_pos (h a (by simp)),Pe l r _ (fun x hx=>h x (by simp[hx]))]
  cases l with
  |nil=>rfl
  |cons b l=>rfl
theorem Qm: ∀(n:Nat) (l:List UInt8) (p:Nat),∀x ∈ Ax n l p,x.1+(Lib.encodeRune (x.2:Int)).length<=p+l.length
 |0,_,_,x,hx=>by simp[Ax]at hx
 |n+1,l,p,x,hx=>by
  simp only[Ax]at hx
  split at hx
  . cases hx
  rename_i h1
  split at hx
  . cases hx
  rename_i h2;have hd:=Lib.decodeL_le l h1;rcases List.mem_cons.1 hx with rfl|hx
  . simp only;rw[Lib.encode_decode l h1 h2,List.length_take];omega
  . have:=Qm n _ _ x hx;rw[List.length_drop]at this;omega
def PI (s:ByteArray) (w:World) (d:Nat) (pre:List (Nat×Nat)) (W:World):Prop:=
 Below w.heap.size w W/\Aj W w.heap.size 3 #[.int .i64 0]/\Aj W (w.heap.size+1) 3 #[.int .i64 (Aaf pre)]/\(∀x ∈ pre,I4 x.2=true)/\W.heap[d]? =some (.cells #[.string s] 9 (0,0))
def PX (w:World) (v:Nat) (W:World):Prop:=Below w.heap.size w W/\Aj W w.heap.size 3 #[.int .i64 v]
theorem Pw {A:World} {g k:Nat} {t:TypeId} {cs:Array Value} {o o':Obj} (h:Aj A g t cs) (ho:A.heap[k]? =some o) (hc:o.isCells=false):Aj (A.putObj k o') g t cs:=by
 by_cases e:g=k
 . subst e;unfold Aj at h;rw[h]at ho
   cases ho
   cases hc
 . exact(World.putObj_heap_other e).trans h
theorem Nu {B:Nat} {a A:World} {k:Nat} (h:Below B a A) (hB:B<=A.heap.size) (hk:B<=k) (o':Obj):Below B a (A.putObj k o'):=h.grown (grownBy_putObj' A k o') hB (fun j e=>by cases e;exact hk)
theorem Acq (s:ByteArray) (w:World) (hT:Cm w) (hs:s.size<=1000000000):
 Calls Tryz.prog 289 #[.string s] w fun e w'=>e=.returned (.int .i64 (E0 s.size s.data.toList:Nat))/\Below w.heap.size w w':=by
 have hfin:Gm 0 (Bw s)=E0 s.size s.data.toList:=by
  unfold Bw;rw[R7];omega
 rw[<-hfin];have Hrs: ∀pre x rest,Bw s=pre++x::rest->Dc x.2/\x.1+(Lib.encodeRune (x.2:Int)).length<=s.size:=by
  intro pre x rest h;have hm:x ∈ Ax s.size s.data.toList 0:=by show x ∈ Bw s;rw[h];simp
  refine⟨Dw _ _ _ x hm, ?_⟩;have:=Qm s.size s.data.toList 0 x hm
  rwa [Al,Nat.zero_add]at this
 refine(callsIn_wide (n:=12)).1 ?_;refine callsIn_of_wp_marks Tryz.func289 rfl trivial ?_ rfl;simp only[Tryz.ntmps289,List.size_toArray,List.length_cons,List.length_nil,Nat.reduceAdd,Nat.reduceSub,Array.replicate_succ,Array.replicate_zero,List.push_toArray,List.append_toArray,List.nil_append,List.cons_append];have Hx0:=qz (((Aj.new w 3 #[.int .i64 0]).alloc (.cells #[.int .i64 0] 3)).alloc (.cells #[.string s] 9));have hx1:=(Aj.new (w.alloc (.cells #[.int .i64 0] 3)) 3 #[.int .i64 0]).alloc (.cells #[.string s] 9);rw[World.size_alloc]at hx1;have Hbw:=qz ((((Below.refl w.heap.size w).alloc (Nat.le_refl _) (.cells #[.int .i64 0] 3)).alloc (by simp) (.cells #[.int .i64 0] 3)).alloc (by simp;omega) (.cells #[.string s] 9));have hnew:=heap_alloc_new ((w.alloc (.cells #[.int .i64 0] 3)).alloc (.cells #[.int .i64 0] 3)) (.cells #[.string s] 9);have hsz:((w.alloc (.cells #[.int .i64 0] 3)).alloc (.cells #[.int .i64 0] 3)).heap.size=w.heap.size+2:=by simp
 rw[hsz]at hnew;obtain⟨Hx1,Hfin,Hnew,Hsz⟩:=hid4 hx1 hfin hnew hsz;clear hx1 hfin hnew hsz
 gi_wp2_with (refine⟨trivial, ?_⟩;gi_at_call 242;refine(callsIn_wide.2 (Ro _ _)).mono ?_;rintro e w3 ⟨rfl,rfl⟩)
 have hz3:(((w.alloc (.cells #[.int .i64 0] 3)).alloc (.cells #[.int .i64 0] 3)).alloc (.cells #[.string s] 9)).heap.size=w.heap.size+3:=by simp
 generalize ((w.alloc (.cells #[.int .i64 0] 3)).alloc (.cells #[.int .i64 0] 3)).alloc (.cells #[.string s] 9)=w3 at*
 have hyld:=Ac3 s (w.heap.size+2) hs;refine Wj (n:=10) (gf:=282) (lb:= #[.pointer (some ⟨w.heap.size+2,0,none⟩)]) rfl (enters_of Tryz.func282 (by kernel_rfl) rfl) hyld (fun _=>rfl)
  (fun pre W=>PI s w (w.heap.size+2) pre W/\w.heap.size+3<=W.heap.size) (fun W=>PX w (Gm 0 (Bw s)) W/\w.heap.size+3<=W.heap.size) ?hIn ?hXn ?hXp ?hIp ?hIb ?h0 ?a1 ?assign ?body ?stop ?done
 case assign=>
  intro l x W K hK
  gi_wp2
  exact hK
 case h0=>exact⟨⟨Hbw.out,Hx0.out,Hx1.out,fun x hx=>(by cases hx),Hnew.out⟩,by omega⟩
 case hIb=>
  rintro pre A ⟨⟨h1,_,_,_,h4⟩,_⟩;exact⟨(Lib.cell_of_heap h4 0).trans rfl,hT.below h1⟩
 case hIn=>
  rintro pre A B ⟨⟨h1,h2,h3,h4,h5⟩,h6⟩ hb;exact⟨⟨h1.trans (hb.mono h1.size),h2.below hb h2.lt,h3.below hb h3.lt,h4,(hb.block _ (Array.getElem?_eq_some_iff.1 h5).1).trans h5⟩,Nat.le_trans h6 hb.size⟩
 case hXn=>
  rintro A B ⟨⟨h1,h2⟩,h6⟩ hb;exact⟨⟨h1.trans (hb.mono h1.size),h2.below hb h2.lt⟩,Nat.le_trans h6 hb.size⟩
 case hXp=>
  rintro A k o o' ⟨⟨h1,h2⟩,h6⟩ ho hc hk;exact⟨⟨Nu h1 h1.size (by omega) _,Pw h2 ho hc⟩,by simpa using h6⟩
 case hIp=>
  rintro pre A k o o' ⟨⟨h1,h2,h3,h4,h5⟩,h6⟩ ho hc hk;exact⟨⟨Nu h1 h1.size (by omega) _,Pw h2 ho hc,Pw h3 ho hc,h4,(World.putObj_heap_other (by omega)).trans h5⟩,by simpa using h6⟩
 case body=>
  rintro l pre ⟨p,r⟩ rest W hx ⟨⟨h1,h2,h3,h4,h5⟩,h6⟩ ⟨ds,hds⟩ ⟨rc,hrc⟩;obtain⟨hsc,hle⟩:=Hrs pre (p,r) rest hx;simp only at hsc hle;have c0:=h2.cell 0;have c1:=h3.cell 0;have f0:=h2.frozen 0;have f1:=h3.frozen 0;have hl0:=h2.lt;have hl1:=h3.lt
  cases hB:I4 r with
  |true=>
   have hB':decide (32<=(r:Int)/\(r:Int)≠34/\(r:Int)≠92)=true:=by
    unfold I4 at hB;rw[decide_eq_true_eq]at hB ⊢;omega
   have hRL:=fun W=>Tryz.utf8_RuneLen (r:Int) W;rw[Afn hsc]at hRL;have hfinI: ∀(a:Act),N4 (fun W=>PI s w (w.heap.size+2) (pre++ [(p,r)]) W/\w.heap.size+3<=W.heap.size) (fun W=>PX w (Gm 0 (Bw s)) W/\w.heap.size+3<=W.heap.size) w3.heap.size W .normal a (W.setCell ⟨w.heap.size+1,0,none⟩ (.int .i64 ((p:Int)+((Lib.encodeRune (r:Int)).length:Nat)))):=by
    intro a;refine⟨Below.heap_setCell _ _ _ _ (by show w3.heap.size≠w.heap.size+1;omega),Below.heap_setCell _ _ _ _ (by show w3.heap.size+1≠w.heap.size+1;omega),⟨h1.setCell (p:=⟨w.heap.size+1,0,none⟩) (by show w.heap.size<=w.heap.size+1;omega) _,h2.far (by show w.heap.size≠w.heap.size+1;omega) _, ?_, ?_,(Below.heap_setCell _ _ _ _ (by show w.heap.size+2≠w.heap.size+1;omega)).trans h5⟩,by simpa[World.setCell]using h6⟩
    . have:=h3.set_ 0 (.int .i64 ((p:Int)+((Lib.encodeRune (r:Int)).length:Nat)));rw[Ai4];simpa using this
    . intro x hx';rcases List.mem_append.1 hx' with hx'|hx'
      . exact h4 x hx'
      . simp only[List.mem_singleton]at hx';rw[hx'];exact hB
   generalize (Lib.encodeRune (r:Int)).length=n at hRL hle hfinI;obtain⟨HRL,HfinI,H1,H2,H3,H4,H5,Hx,Hds,Hrc⟩:=hid10 hRL hfinI h1 h2 h3 h4 h5 hx hds hrc;clear hRL hfinI h1 h2 h3 h4 h5 hx hds hrc;clear hB
   gi_wp2_with (first|(refine⟨trivial, ?_⟩;gi_at_call 243;refine(CallsIn.inRound l (callsIn_wide.2 (Dd hB' _))).mono ?_;rintro e wx ⟨rfl,rfl⟩)|(refine⟨trivial, ?_⟩;gi_at_call 316;refine(CallsIn.inRound l (callsIn_wide.2 (HRL.out _))).mono ?_;rintro e wx ⟨rfl,rfl⟩))
   exact HfinI.out _
  |false=>
   have hB':decide (32<=(r:Int)/\(r:Int)≠34/\(r:Int)≠92)=false:=by
    unfold I4 at hB;rw[decide_eq_false_iff_not]at hB ⊢;omega
   have hval:Gm 0 (Bw s)=p:=by
    rw[hx,Pe _ _ _ h4,Gm,hB,if_neg (by decide)]
   have hfinX: ∀(a:Act),N4 (fun W=>PI s w (w.heap.size+2) (pre++ [(p,r)]) W/\w.heap.size+3<=W.heap.size) (fun W=>PX w (Gm 0 (Bw s)) W/\w.heap.size+3<=W.heap.size) w3.heap.size W .ret a (W.setCell ⟨w.heap.size,0,none⟩ (.int .i64 (p:Int))):=by
    intro a;refine⟨Below.heap_setCell _ _ _ _ (by show w3.heap.size≠w.heap.size;omega),Below.heap_setCell _ _ _ _ (by show w3.heap.size+1≠w.heap.size;omega),⟨h1.setCell (p:=⟨w.heap.size,0,none⟩) (Nat.le_refl _) _, ?_⟩,by simpa[World.setCell]using h6⟩;have:=h2.set_ 0 (.int .i64 (p:Int));rw[hval];exact this
   obtain⟨HfinX,H1,H2,H3,H4,H5,Hx,Hds,Hrc,Hval⟩:=hid10 hfinX h1 h2 h3 h4 h5 hx hds hrc hval;clear hfinX h1 h2 h3 h4 h5 hx hds hrc hval;clear hB
   gi_wp2_with (refine⟨trivial, ?_⟩;gi_at_call 243;refine(CallsIn.inRound l (callsIn_wide.2 (Dd hB' _))).mono ?_;rintro e wx ⟨rfl,rfl⟩)
   exact HfinX.out _
 case stop=>
  rintro W ⟨⟨h1,h2⟩,h6⟩ hds;have h2':=Pw h2 hds rfl (o':=.deferred none);have c0:=h2'.cell 0;have Hb':=qz (Nu h1 h1.size (k:=w3.heap.size) (by omega) (.deferred none));obtain⟨H1,H2,H2'⟩:=hid3 h1 h2 h2';clear h1 h2 h2'
  gi_wp2
  refine⟨by simp,.inl ⟨_,_,rfl,run_takeDeferred hds, ?_⟩⟩;refine⟨.int .i64 (Gm 0 (Bw s):Nat), ?_,rfl,Hb'.out⟩;simp[results,Tryz.results289,go_sem,c0]
 case done=>
  rintro W ⟨⟨h1,h2,h3,h4,h5⟩,h6⟩ hds;have hval:Gm 0 (Bw s)=Aaf (Bw s):=by
   have:=Pe (Bw s) [] 0 h4;rw[List.append_nil]at this;rw[this]
   split
   . rename_i e;rw[e];rfl
   . rfl
  have c0:=h2.cell 0;have c1:=h3.cell 0;have f0:=h2.frozen 0;have hl0:=h2.lt;have hds':=(Below.heap_setCell W ⟨w.heap.size,0,none⟩ (.int .i64 (Aaf (Bw s):Nat)) w3.heap.size (by show w3.heap.size≠w.heap.size;omega)).trans hds;have h2':=Pw (h2.set_ 0 (.int .i64 (Aaf (Bw s):Nat))) hds' rfl (o':=.deferred none);have c0':=h2'.cell 0;have Hb':=qz (Nu (h1.setCell (p:=⟨w.heap.size,0,none⟩) (Nat.le_refl _) (.int .i64 (Aaf (Bw s):Nat))) (by simpa[World.setCell]using h1.size) (k:=w3.heap.size) (by omega) (.deferred none));obtain⟨H1,H2,H3,H4,H5,H2',Hval,Hds'⟩:=hid8 h1 h2 h3 h4 h5 h2' hval hds';clear h1 h2 h3 h4 h5 h2' hval hds'
  gi_wp2
  refine⟨by simp,.inl ⟨_,_,rfl,run_takeDeferred Hds'.out, ?_⟩⟩;refine⟨.int .i64 (Aaf (Bw s):Nat), ?_,by rw[Hval.out],Hb'.out⟩;simp[results,Tryz.results289,go_sem,c0']
end Go.Proofs.YtkmcjfkokoidcaaGreatDoor
