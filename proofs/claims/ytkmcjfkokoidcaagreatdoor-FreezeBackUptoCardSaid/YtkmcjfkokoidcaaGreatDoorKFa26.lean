/- Parts: A row of members sorted by their keys, by slices.SortFunc. Condition: no key twice. -/
import Derived.Deep.RegionHeld
import Derived.Test.YtkmcjfkokoidcaaGreatDoorZFaShelfS
import Derived.Shelf.SlSortCmp.WholeK
import Derived.Test.YtkmcjfkokoidcaaGreatDoorKFa21
import Derived.Test.YtkmcjfkokoidcaaGreatDoorKFa23
set_option maxHeartbeats 20000000
set_option maxRecDepth 100000
namespace Go.Proofs.YtkmcjfkokoidcaaGreatDoor
open Go.RowKit
def F4 (x:List UInt8):Prop:= ∀c y,x=c::y->Dy c=false
def Mt (g:List UInt8):Prop:= ∀c ∈ g,Fw c=true
theorem Cn {s a x:List UInt8} {p:Nat} (h:s.drop p=a++x):s.drop (p+a.length)=x:=by
 rw[<-List.drop_drop,h,List.drop_left]
theorem M4 {s a x:List UInt8} {p:Nat} (h:s.drop p=a++x) (hp:p<=s.length):p+a.length<=s.length:=by
 have:=congrArg List.length h;rw[List.length_drop,List.length_append]at this;omega
theorem Cj {s x:List UInt8} {p:Nat} {c:UInt8} (h:s.drop p=c::x):s[p]? =some c:=by
 have:=List.getElem?_drop (xs:=s) (i:=p) (j:=0);rw[h]at this;simpa using this.symm
theorem Fu: ∀{g:List UInt8},Mt g-> ∀{s x:List UInt8} {p:Nat},s.drop p=g++x->Aq s p=Aq s (p+g.length)
 | [],_,_,_,_,_=>rfl
 |c::g,hg,s,x,p,h=>by
  rw[Xr (Cj h) (hg c (by simp))];have h2:s.drop (p+1)=g++x:=Cn (a:= [c]) (x:=g++x) (by simpa using h);rw[Fu (fun c hc=>hg c (by simp[hc])) h2,List.length_cons]
  congr 1;omega
theorem Vf {f:Nat} {s:List UInt8} {p p':Nat} {d:Int} (h:Aq s p=Aq s p'):Cc f s p d=Cc f s p' d:=by
 cases f with
 |zero=>unfold Cc;rw[h]
 |succ f=>unfold Cc;rw[h]
def F6 (t:List UInt8) (v:Val) (d:Int):Prop:= ∀f s p x,p<=s.length->s.drop p=t++x->F4 x->4*(s.length - p)+1<=f-> ∃q,Cc f s p d=.ok v q/\Aq s q=Aq s (p+t.length)
theorem F4.blanks {g x:List UInt8} (hg:Mt g) (hx:F4 x):F4 (g++x):=by
 intro c y h
 cases g with
 |nil=>exact hx c y h
 |cons a g=>
  have:a=c:=(List.cons.inj h).1;subst this;have:=hg a (by simp);unfold Fw at this;simp only[Bool.or_eq_true,beq_iff_eq]at this;rcases this with((rfl|rfl)|rfl)|rfl<;>decide
theorem F4.of {c:UInt8} {y:List UInt8} (h:Dy c=false):F4 (c::y):=by
 intro c' y' e;rw[<-(List.cons.inj e).1];exact h
theorem F4.nil:F4 []:=by intro c y e;cases e
theorem F6.ahead {t:List UInt8} {v:Val} {d:Int} (h:F6 t v d) {g:List UInt8} (hg:Mt g):F6 (g++t) v d:=by
 intro f s p x hp hs hx hf;rw[List.append_assoc]at hs;have h1:=Fu hg hs;have h2:=Cn hs;have h3:=M4 hs hp;obtain⟨q,h4,h5⟩:=h f s (p+g.length) x h3 h2 hx (by omega);refine⟨q,by rw[Vf h1];exact h4, ?_⟩;rw[h5,List.length_append]
 congr 1;omega
theorem Ey {f:Nat} {s:List UInt8} {p:Nat} {d:Int} {c:UInt8} (hc:s[p]? =some c) (hb:F3 c=true) (hd:d<=64) (hbl:Fw c=false):Cc (f+1) s p d=
 (if c=91 then Ka f s p d
   else if c=123 then Oh f s p d
   else if c=34 then(Eg s p).map Ade
   else if c=110 then Dh s p [110,117,108,108] Nb
   else if c=116 then Dh s p [116,114,117,101] (Ia true)
   else if c=102 then Dh s p [102,97,108,115,101] (Ia false)
   else(Dg s p).map Q5):=by
 conv=>lhs;unfold Cc
 rw[Eb hc hbl,hc];simp only;rw[if_neg (by rw[hb];decide),if_neg (by omega)]
theorem Aah {s w x:List UInt8} {p:Nat} (h:s.drop p=w++x) (v:Val):Dh s p w v=.ok v (p+w.length):=by
 unfold Dh;rw[h,if_pos (by rw[List.isPrefixOf_iff_prefix];exact⟨x,rfl⟩)]
theorem Aik {d:Int} (hd:d<=64):F6 [110,117,108,108] Nb d:=by
 intro f s p x hp hs hx hf;obtain⟨f,rfl⟩: ∃f',f=f'+1:=⟨f - 1,by omega⟩;refine⟨_, ?_,rfl⟩;rw[Ey (Cj hs) (by decide) hd (by decide),if_neg (by decide),if_neg (by decide),if_neg (by decide),if_pos rfl];exact Aah hs _
theorem Aim {d:Int} (hd:d<=64):F6 [116,114,117,101] (Ia true) d:=by
 intro f s p x hp hs hx hf;obtain⟨f,rfl⟩: ∃f',f=f'+1:=⟨f - 1,by omega⟩;refine⟨_, ?_,rfl⟩;rw[Ey (Cj hs) (by decide) hd (by decide),if_neg (by decide),if_neg (by decide),if_neg (by decide),if_neg (by decide),if_pos rfl];exact Aah hs _
theorem Afj {d:Int} (hd:d<=64):F6 [102,97,108,115,101] (Ia false) d:=by
 intro f s p x hp hs hx hf;obtain⟨f,rfl⟩: ∃f',f=f'+1:=⟨f - 1,by omega⟩;refine⟨_, ?_,rfl⟩;rw[Ey (Cj hs) (by decide) hd (by decide),if_neg (by decide),if_neg (by decide),if_neg (by decide),if_neg (by decide),if_neg (by decide),if_pos rfl];exact Aah hs _
theorem Ta {c:UInt8}:Dy c=true ↔ 48<=c.toNat/\c.toNat<=57:=by unfold Dy;simp
theorem Abh: ∀{a x:List UInt8},(∀c ∈ a,Dy c=true)->F4 x->Q0 (a++x)=a.length
 | [], [],_,_=>rfl
 | [],c::y,_,hx=>by
   show Q0 (c::y)=0;unfold Q0;rw[if_neg (by rw[hx c y rfl];decide)]
 |c::a,x,ha,hx=>by
  rw[List.cons_append];unfold Q0;rw[if_pos (ha c (by simp)),Abh (fun y hy=>ha y (by simp[hy])) hx,List.length_cons]
theorem Tu {u:Nat} (h:u≠0): ∃c y,Fi u=c::y/\c≠48:=by
 induction u using Nat.strongRecOn with
 |_ u ih=>
  rw[Lh h];by_cases h0:u / 10=0
  . rw[h0,Il,List.nil_append];refine⟨_, [],rfl, ?_⟩;have hd: ∀d:Fin 10,d.val≠0->dgt d.val≠48:=by decide
    exact hd ⟨u % 10,by omega⟩ (by simp only;omega)
  . obtain⟨c,y,e,hc⟩:=ih (u / 10) (by omega) h0;exact⟨c,y++ [dgt (u % 10)],by rw[e];rfl,hc⟩
theorem Ami {u:Nat} (h:u≠0):Fi u≠ []:=by
 obtain⟨c,y,e,_⟩:=Tu h;rw[e];simp
theorem Agb {s a x:List UInt8} {f:Nat} (h:s.drop f=a++x) (ha: ∀c ∈ a,Dy c=true) (hx:F4 x):Cq s f=f+a.length/\(s.drop f).take (Cq s f - f)=a:=by
 have e:Cq s f=f+a.length:=by unfold Cq;rw[h,Abh ha hx]
 refine⟨e, ?_⟩;rw[e,h,Nat.add_sub_cancel_left,List.take_left'];rfl
theorem Zn {s a x:List UInt8} {p:Nat} (h:s.drop p=a++x) (ha: ∀c ∈ a,Dy c=true) (hx:F4 x) (hne:a≠ []) (hz:a[0]? =some 48->a.length=1):Dg s p=Fs false (Ik a) p (p+a.length):=by
 obtain⟨c,y,rfl⟩: ∃c y,a=c::y:=by cases a with
  |nil=>exact absurd rfl hne
  |cons c y=>exact⟨c,y,rfl⟩
 obtain⟨e1,e2⟩:=Agb h ha hx;have hc:s[p]? =some c:=Cj h;have hd:=Ta.1 (ha c (by simp));have h45: ¬(s[p]? =some 45):=by
  rw[hc];intro e;have:c=45:=Option.some.inj e;subst this;have:(45:UInt8).toNat=45:=rfl;omega
 unfold Dg;rw[if_neg h45];unfold N6;rw[e2,e1,if_neg (by simp),decide_eq_false h45,if_neg];rintro⟨h1,h2⟩;rw[hc]at h1;have:=hz (by simpa using h1);omega
theorem Zm {s a x:List UInt8} {p:Nat} (h:s.drop p=45::(a++x)) (ha: ∀c ∈ a,Dy c=true) (hx:F4 x) (hne:a≠ []) (hz:a[0]? =some 48->a.length=1):Dg s p=Fs true (Ik a) p (p+1+a.length):=by
 have h1:s.drop (p+1)=a++x:=Cn (a:= [45]) h;obtain⟨c,y,rfl⟩: ∃c y,a=c::y:=by cases a with
  |nil=>exact absurd rfl hne
  |cons c y=>exact⟨c,y,rfl⟩
 obtain⟨e1,e2⟩:=Agb h1 ha hx;have hc:s[p+1]? =some c:=Cj h1;have h45:s[p]? =some 45:=Cj h;unfold Dg;rw[if_pos h45];unfold N6;rw[e2,e1,if_neg (by simp),decide_eq_true h45,if_neg];rintro⟨h2,h3⟩;rw[hc]at h2;have:=hz (by simpa using h2);omega
theorem Ahj (u:Nat):Ik (Fi u)=u:=Rb u
def Vk (u:Nat):List UInt8:=if u=0 then [48]else Fi u
theorem Abb (u:Nat):(∀c ∈ Vk u,Dy c=true)/\Vk u≠ []/\((Vk u)[0]? =some 48->(Vk u).length=1)/\Ik (Vk u)=u:=by
 unfold Vk
 split
 . rename_i h;subst h;exact⟨by decide,by decide,fun _=>rfl,rfl⟩
 . rename_i h;refine⟨fun c hc=>Ta.2 (L7 u c hc),Ami h,fun e=> ?_,Ahj u⟩;obtain⟨c,y,e1,hc⟩:=Tu h;rw[e1]at e;simp only[List.getElem?_cons_zero,Option.some.injEq]at e;exact absurd e hc
theorem Ah3 (n:Int):Lib.itoa n=if n<0 then 45::Vk n.natAbs else Vk n.toNat:=by
 by_cases h:n<0
 . rw[if_pos h,Lib.itoa,if_pos h,<-Gy _ (by omega)];unfold Vk;rw[if_neg (by omega)]
 . rw[if_neg h,Lib.itoa,if_neg h];unfold Vk;by_cases h0:n=0
   . subst h0;show Lib.decDigits 0=if(0:Nat)=0 then [48]else Fi 0;rw[if_pos rfl];exact Lib.decDigits_one (i:=0) (by omega)
   . rw[if_neg (by omega),Gy _ (by omega)]
theorem Aci {n:Int} (h: -9223372036854775808<=n/\n<=9223372036854775807) {s x:List UInt8} {p:Nat} (hs:s.drop p=Lib.itoa n++x) (hx:F4 x):Dg s p=.ok n (p+(Lib.itoa n).length):=by
 rw[Ah3]at hs ⊢
 split at hs
 . rename_i hn;obtain⟨h1,h2,h3,h4⟩:=Abb n.natAbs;rw[Zm hs h1 hx h2 h3,h4,if_pos hn];unfold Fs;rw[if_pos rfl,if_neg (by omega),List.length_cons]
   congr 1
   . omega
   . omega
 . rename_i hn;obtain⟨h1,h2,h3,h4⟩:=Abb n.toNat;rw[Zn hs h1 hx h2 h3,h4,if_neg hn];unfold Fs;rw[if_neg (by decide),if_neg (by omega)]
   congr 1
   omega
theorem Afr {c:UInt8} (h:Dy c=true\/c=45):F3 c=true/\Fw c=false/\c≠91/\c≠123/\c≠34/\c≠110/\c≠116/\c≠102:=by
 rcases h with h|rfl
 . have hd:=Ta.1 h;have ne: ∀k:UInt8,(k.toNat<48\/57<k.toNat)->c≠k:=by
    rintro k hk rfl;omega
   refine⟨by unfold F3;rw[h];rfl, ?_,ne _ (by decide),ne _ (by decide),ne _ (by decide),ne _ (by decide),ne _ (by decide),ne _ (by decide)⟩;unfold Fw;simp only[Bool.or_eq_false_iff,beq_eq_false_iff_ne];exact⟨⟨⟨ne _ (by decide),ne _ (by decide)⟩,ne _ (by decide)⟩,ne _ (by decide)⟩
 . decide
theorem Ai8 {f:Nat} {s:List UInt8} {p:Nat} {d:Int} (hd:d<=64) {c:UInt8} (hc:s[p]? =some c) (h:Dy c=true\/c=45):Cc (f+1) s p d=(Dg s p).map Q5:=by
 obtain⟨h1,h2,h3,h4,h5,h6,h7,h8⟩:=Afr h;rw[Ey hc h1 hd h2,if_neg h3,if_neg h4,if_neg h5,if_neg h6,if_neg h7,if_neg h8]
theorem Aln {n:Int} (h: -9223372036854775808<=n/\n<=9223372036854775807) {d:Int} (hd:d<=64):F6 (Lib.itoa n) (Q5 n) d:=by
 intro f s p x hp hs hx hf;obtain⟨f,rfl⟩: ∃f',f=f'+1:=⟨f - 1,by omega⟩;refine⟨_, ?_,rfl⟩;obtain⟨c,y,e⟩: ∃c y,Lib.itoa n=c::y:=by
  cases hi:Lib.itoa n with
  |nil=>exact absurd hi (Zd n)
  |cons c y=>exact⟨c,y,rfl⟩
 have hc:s[p]? =some c:=Cj (x:=y++x) (by rw[hs,e];rfl);have hr:=Md n c (by rw[e];simp);have hr':Dy c=true\/c=45:=by
  rcases hr with hr|hr
  . exact .inr (UInt8.toNat_inj.1 hr)
  . exact .inl (Ta.2 hr)
 rw[Ai8 hd hc hr',Aci h hs hx];rfl
theorem Aho: ∀r:Fin 128,(r.val<32\/r.val=34\/r.val=92)->(Ai r.val).getD 0 0=92/\(((Ai r.val).length=2/\(Ai r.val).getD 1 0≠117/\Kz ((Ai r.val).getD 1 0)=some r.val)\/
 ((Ai r.val).length=6/\(Ai r.val).getD 1 0=117/\Mr ((Ai r.val).drop 2) 4 0=some r.val)):=by decide+kernel
theorem Abs: ∀(k:Nat) (l x:List UInt8) (n r:Nat),Mr l k n=some r->Mr (l++x) k n=some r
 |0,l,x,n,r,h=>by cases l<;>(cases x<;>simpa[Mr]using h)
 |k+1, [],x,n,r,h=>by simp[Mr]at h
 |k+1,c::l,x,n,r,h=>by
  rw[List.cons_append];simp only[Mr]at h ⊢
  cases hd:Vl c with
  |none=>rw[hd]at h;cases h
  |some d=>
   rw[hd]at h;exact Abs k l x _ r h
theorem Ahp {r:Nat} (hr:r<32\/r=34\/r=92) (x:List UInt8):Kl (Ai r++x)=.ok r (Ai r).length/\ ∃y,Ai r=92::y:=by
 obtain⟨h0,h1⟩:=Aho ⟨r,by omega⟩ hr;simp only at h0 h1;obtain⟨a,y,e⟩: ∃a y,Ai r=a::y:=by
  cases hq:Ai r with
  |nil=>rw[hq]at h1;simp at h1
  |cons a y=>exact⟨a,y,rfl⟩
 have ha:a=92:=by rw[e]at h0;exact h0
 subst ha;refine⟨?_,y,e⟩;rw[e]at h1 ⊢;rcases h1 with⟨hl,h2,h3⟩|⟨hl,h2,h3⟩
 . match y,hl with
   | [c],_=>
     have h2':c≠117:=h2;have h3':Kz c=some r:=h3;unfold Kl F5;rw[if_pos (by right;right;simpa using h2')];simp only[Vn,List.cons_append,List.nil_append,List.getElem?_cons_succ,List.getElem?_cons_zero];rw[h3'];rfl
 . match y,hl with
   | [c,d,e1,e2,e3],_=>
     have h2':c=117:=h2;subst h2';have h3':Mr [d,e1,e2,e3] 4 0=some r:=h3;have h4:=Abs 4 _ x _ _ h3';unfold Kl F5;rw[if_neg (by simp)];simp only[List.cons_append,List.nil_append,List.drop_succ_cons,List.drop_zero]at h4 ⊢;rw[h4];simp only[Jg];rw[if_pos (by omega)];rfl
theorem Ye: ∀(L:List (Nat×Nat)),(∀x ∈ L,Dc x.2)-> ∀(f:Nat) (s x:List UInt8) (i:Nat) (out:List UInt8),s.drop i=Ae L++34::x->i<=s.length->s.length - i<=f->
 Ir f s i out=.ok (out++L.flatMap fun y=>Lib.encodeRune (y.2:Int)) (i+(Ae L).length+1)
 | [],_,f,s,x,i,out,h,hi,hf=>by
   have h':s.drop i=34::x:=h;have hc:=Cj h';have:=Cz hc;obtain⟨f,rfl⟩: ∃f',f=f'+1:=⟨f - 1,by omega⟩;unfold Ir;rw[hc];simp[Ae]
 |a::L,hL,f,s,x,i,out,h,hi,hf=>by
  have ha:=hL a (by simp);have e2:Ae (a::L)=Ai a.2++Ae L:=by simp[Ae]
  rw[e2,List.append_assoc]at h;obtain⟨c,y,hq,hn⟩:=Jl ha;have hc:s[i]? =some c:=Cj (x:=y++(Ae L++34::x)) (by rw[h,hq];rfl);have hlt:=Cz hc;obtain⟨f,rfl⟩: ∃f',f=f'+1:=⟨f - 1,by omega⟩;have hlen:0<(Ai a.2).length:=by rw[hq];simp
  have h1:=Cn h;have h2:=M4 h hi;have rec_:=Ye L (fun z hz=>hL z (by simp[hz])) f s x (i+(Ai a.2).length) (out++Lib.encodeRune (a.2:Int)) h1 h2 (by omega);have efin:(Rd.ok (out++Lib.encodeRune (a.2:Int)++L.flatMap fun y=>Lib.encodeRune (y.2:Int)) (i+(Ai a.2).length+(Ae L).length+1):Rd (List UInt8))=.ok (out++(a::L).flatMap fun y=>Lib.encodeRune (y.2:Int)) (i+(Ae (a::L)).length+1):=by
   rw[List.flatMap_cons,List.append_assoc,e2,List.length_append]
   congr 1
   omega
  rw[<-efin,<-rec_]
  conv=>lhs;unfold Ir
  rw[hc];simp only;rw[if_neg hn];by_cases hp:32<=a.2/\a.2≠34/\a.2≠92
  . have e:Ai a.2=Lib.encodeRune a.2:=by unfold Ai;rw[if_pos hp]
    have hb:=Gz ha c (by rw[<-e,hq];simp);have c32: ¬c.toNat<32:=by omega
    have c92:c≠92:=by
     rintro rfl;have:(92:UInt8).toNat=92:=rfl;omega
    have hdec:Lib.decodeL (s.drop i)=(a.2,(Lib.encodeRune (a.2:Int)).length):=by rw[h,e];exact Abc ha _
    have hnot: ¬((Lib.decodeL (s.drop i)).1=65533/\(Lib.decodeL (s.drop i)).2=1):=by
     rw[hdec];rintro⟨e1,e3⟩;simp only at e1 e3;rw[e1]at e3;have:(Lib.encodeRune ((65533:Nat):Int)).length=3:=by decide+kernel
     omega
    rw[if_neg c32,if_neg c92,if_neg hnot,hdec,h,e];simp only;rw[List.take_left'];rfl
  . obtain⟨h3,y',h4⟩:=Ahp (r:=a.2) (by omega) (Ae L++34::x);have c92:c=92:=by
     rw[hq]at h4;exact(List.cons.inj h4).1
    subst c92;rw[if_neg (by decide),if_pos rfl,h,h3]
theorem Yd {a:ByteArray} (ha:A9 a=true) {s x:List UInt8} {p:Nat} (h:s.drop p=Bl a++x):Eg s p=.ok a.data.toList (p+(Bl a).length):=by
 unfold Bl at h;rw[List.append_assoc]at h;have h':s.drop p=34::(Ae (Bw a)++34::x):=h;have hc:=Cj h';have hl:=Cz hc;have h1:s.drop (p+1)=Ae (Bw a)++34::x:=Cn (a:= [34]) h';unfold Eg;rw[if_pos hc,Ye (Bw a) (Dw _ _ _) _ s x (p+1) [] h1 (by omega) (by omega)];unfold Bl Bw;rw[Mj a.size a.data.toList 0 (by rw[Lp];exact Nat.le_refl _) ha];rw[List.nil_append]
 congr 1
 simp only[List.length_append,List.length_cons,List.length_nil];omega
theorem Yt (a:ByteArray):(⟨a.data.toList.toArray⟩:ByteArray)=a:=by
 apply ByteArray.ext;simp
theorem Alp {a:ByteArray} (ha:A9 a=true) {d:Int} (hd:d<=64):F6 (Bl a) (.mk 4 false 0 a [] []) d:=by
 intro f s p x hp hs hx hf;obtain⟨f,rfl⟩: ∃f',f=f'+1:=⟨f - 1,by omega⟩;have hc:s[p]? =some 34:=Cj (x:=Ae (Bw a)++ [34]++x) (by rw[hs];rfl);refine⟨_, ?_,rfl⟩;rw[Ey hc (by decide) hd (by decide),if_neg (by decide),if_neg (by decide),if_pos rfl,Yd ha hs];simp only[Rd.map,Ade,Yt]
def Dk:List (List UInt8)->List UInt8
 | []=> []
 | [t]=>t
 |t::u::r=>t++44::Dk (u::r)
theorem Ua {d:Int} (hd:d<=64): ∀(l:List (List UInt8×Val)),l≠ []->(∀y ∈ l,F6 y.1 y.2 (d+1))-> ∀(f:Nat) (s x:List UInt8) (p:Nat) (acc:List Val),p<=s.length->s.drop p=Dk (l.map (·.1))++93::x->4*(s.length - p)+2<=f->
 D7 f s p d acc=.ok (Sv (acc++l.map (·.2))) (p+(Dk (l.map (·.1))).length+1)
 | [y],_,hl,f,s,x,p,acc,hp,h,hf=>by
   obtain⟨f,rfl⟩: ∃f',f=f'+1:=⟨f - 1,by omega⟩;have h':s.drop p=y.1++93::x:=h;obtain⟨q,h1,h2⟩:=hl y (by simp) f s p (93::x) hp h' (F4.of (by decide)) (by omega);have h3:=Cj (Cn h');rw[Eb h3 (by decide)]at h2
   conv=>lhs;unfold D7
   rw[h1];simp only;rw[h2,h3,if_neg (by decide),if_pos rfl];rfl
 |y::z::r,_,hl,f,s,x,p,acc,hp,h,hf=>by
  obtain⟨f,rfl⟩: ∃f',f=f'+1:=⟨f - 1,by omega⟩;have h':s.drop p=y.1++44::(Dk ((z::r).map (·.1))++93::x):=by
   rw[h];simp only[List.map_cons,Dk,List.append_assoc,List.cons_append]
  obtain⟨q,h1,h2⟩:=hl y (by simp) f s p _ hp h' (F4.of (by decide)) (by omega);have h3:=Cj (Cn h');have h4:=Cz h3;rw[Eb h3 (by decide)]at h2;have h5:s.drop (p+y.1.length+1)=Dk ((z::r).map (·.1))++93::x:=Cn (a:= [44]) (Cn h')
  conv=>lhs;unfold D7
  rw[h1];simp only;rw[h2,h3,if_pos rfl,Ua hd (z::r) (by simp) (fun w hw=>hl w (by simp[hw])) f s x _ (acc++ [y.2]) (by omega) h5 (by omega)]
  congr 1
  . simp
  . simp only[List.map_cons,Dk,List.length_append,List.length_cons];omega
theorem Ako {y:List UInt8} {r:List (List UInt8)}: ∃z,Dk (y::r)=y++z:=by
 cases r with
 |nil=>exact⟨[],by simp[Dk]⟩
 |cons u r=>exact⟨44::Dk (u::r),rfl⟩
theorem R9 {t:List UInt8} {v:Val} {d:Int} (h:F6 t v d) {s x:List UInt8} {p:Nat} (hp:p<=s.length) (hs:s.drop p=t++x) (hx:F4 x): ∃c,s[Aq s p]? =some c/\F3 c=true:=by
 obtain⟨q,h1,_⟩:=h (4*(s.length - p)+1) s p x hp hs hx (Nat.le_refl _);unfold Cc at h1
 cases hc:s[Aq s p]? with
 |none=>rw[hc]at h1;cases h1
 |some c=>
  rw[hc]at h1;simp only at h1;refine⟨c,rfl, ?_⟩
  cases hb:F3 c with
  |true=>rfl
  |false=>rw[hb,if_pos rfl]at h1;cases h1
theorem Aij {d:Int} (hd:d<=64) {l:List (List UInt8×Val)} (hl: ∀y ∈ l,F6 y.1 y.2 (d+1)) {g:List UInt8} (hg:Mt g) (hne:l≠ []->g= []):
 F6 (91::(g++Dk (l.map (·.1))++ [93])) (Sv (l.map (·.2))) d:=by
 intro f s p x hp hs hx hf;obtain⟨f,rfl⟩: ∃f',f=f'+1:=⟨f - 1,by omega⟩;have hc:s[p]? =some 91:=Cj hs;have hlt:=Cz hc;obtain⟨f,rfl⟩: ∃f',f=f'+1:=⟨f - 1,by omega⟩;have h1:s.drop (p+1)=g++(Dk (l.map (·.1))++93::x):=by
  refine Cn (a:= [91]) ?_;rw[hs];simp
 rw[Ey hc (by decide) hd (by decide),if_pos rfl];unfold Ka
 cases l with
 |nil=>
  have h2:=Cn h1;have h3:s[p+1+g.length]? =some 93:=Cj h2;rw[Fu hg h1,Eb h3 (by decide),if_pos h3];refine⟨_,rfl, ?_⟩;simp only[List.map_nil,Dk,List.append_nil,List.length_cons,List.length_append,List.length_nil]
  congr 1;omega
 |cons y r=>
  obtain rfl:=hne (by simp);rw[List.nil_append]at h1;obtain⟨z,hz⟩:=Ako (y:=y.1) (r:=r.map (·.1));have hfirst: ∃c,s[Aq s (p+1)]? =some c/\F3 c=true:=by
   cases r with
   |nil=>
    refine R9 (hl y (by simp)) (p:=p+1) (x:=93::x) (by omega) ?_ (F4.of (by decide));rw[h1];rfl
   |cons w r=>
    refine R9 (hl y (by simp)) (p:=p+1) (x:=44::(Dk ((w::r).map (·.1))++93::x)) (by omega) ?_ (F4.of (by decide));rw[h1];simp only[List.map_cons,Dk,List.append_assoc,List.cons_append]
  obtain⟨c,h3,h4⟩:=hfirst;have hn93: ¬(s[Aq s (p+1)]? =some 93):=by
   rw[h3];intro e;rw[Option.some.inj e]at h4;revert h4;decide
  rw[if_neg hn93];have hit:=Ua hd (y::r) (by simp) hl f s x (p+1) [] (by omega) h1 (by omega);have hpast:D7 f s (Aq s (p+1)) d []=D7 f s (p+1) d []:=by
   cases f with
   |zero=>unfold D7;rw[Ea]
   |succ f=>unfold D7;rw[Vf (Ea s (p+1))]
  rw[hpast,hit];refine⟨_,by rw[List.nil_append], ?_⟩;simp only[List.nil_append,List.length_cons,List.length_append,List.length_nil]
  congr 1;omega
structure Mem where
 pre:List UInt8
 mid:List UInt8
 txt:List UInt8
 key:ByteArray
 val:Val
def Mem.text (m:Mem):List UInt8:=m.pre++(Bl m.key++(m.mid++58::m.txt))
def Mem.pair (m:Mem):ByteArray×Val:=(m.key,m.val)
def Mem.good (d:Int) (m:Mem):Prop:=Mt m.pre/\Mt m.mid/\A9 m.key=true/\F6 m.txt m.val d
theorem Acu (a:ByteArray):Bl a=34::(Ae (Bw a)++ [34]):=rfl
theorem R4 {d:Int} {m:Mem} (hm:m.good (d+1)) {f:Nat} {s x:List UInt8} {p:Nat} {acc:List (ByteArray×Val)} (hp:p<=s.length) (h:s.drop p=m.text++x) (hx:F4 x) (hf:4*(s.length - p)+2<=f):
 (Lj m.key acc=true->By f s p d acc=.bad 8 (p+m.pre.length))/\
 (Lj m.key acc=false-> ∃g q,f=g+2/\Aq s q=Aq s (p+m.text.length)/\By f s p d acc=(if s[Aq s q]? =some 44 then By g s (Aq s q+1) d (acc++ [m.pair])else if s[Aq s q]? =some 125 then .ok (Rc (G8 (acc++ [m.pair]))) (Aq s q+1)else .bad 4 (Aq s q))):=by
 obtain⟨g1,g2,hv,hr⟩:=hm;unfold Mem.text at h;rw[List.append_assoc,List.append_assoc,List.append_assoc]at h;have h1:=Cn h;have l1:=M4 h hp;have h2:=Cn h1;have l2:=M4 h1 l1;have h3:=Cn h2;have l3:=M4 h2 l2;have h4:s.drop (p+m.pre.length+(Bl m.key).length+m.mid.length+1)=m.txt++x:=Cn (a:= [58]) h3;have c34:s[p+m.pre.length]? =some 34:=Cj (x:=Ae (Bw m.key)++ [34]++(m.mid++([58]++m.txt++x))) (by rw[h1];rfl);have c58:=Cj h3;have lt58:=Cz c58;have e1:Aq s p=p+m.pre.length:=by rw[Fu g1 h,Eb c34 (by decide)]
 have e2:=Yd hv h1;have e3:Aq s (p+m.pre.length+(Bl m.key).length)=p+m.pre.length+(Bl m.key).length+m.mid.length:=by rw[Fu g2 h2,Eb c58 (by decide)]
 have hql:2<=(Bl m.key).length:=by rw[Acu];simp
 obtain⟨f,rfl⟩: ∃f',f=f'+2:=⟨f - 2,by omega⟩;constructor
 . intro hk
   conv=>lhs;unfold By
   rw[e1,e2];simp only;rw[Yt,if_pos hk]
 . intro hk;obtain⟨q,h5,h6⟩:=hr f s _ x (by omega) h4 hx (by omega);refine⟨f,q,rfl, ?_, ?_⟩
   . rw[h6];unfold Mem.text;simp only[List.length_append,List.length_cons]
     congr 1;omega
   . conv=>lhs;unfold By
     rw[e1,e2];simp only;rw[Yt,if_neg (by rw[hk];decide),e3,c58,if_pos rfl]
     conv=>lhs;unfold Fy
     rw[h5];rfl
theorem Qd {d:Int}: ∀(l:List Mem),l≠ []->(∀m ∈ l,m.good (d+1))-> ∀(f:Nat) (s x:List UInt8) (p:Nat) (acc:List (ByteArray×Val)),((acc++l.map Mem.pair).map (·.1)).Nodup->p<=s.length->s.drop p=Dk (l.map Mem.text)++125::x->4*(s.length - p)+2<=f->
 By f s p d acc=.ok (Rc (G8 (acc++l.map Mem.pair))) (p+(Dk (l.map Mem.text)).length+1)
 | [m],_,hl,f,s,x,p,acc,hn,hp,h,hf=>by
   have h':s.drop p=m.text++125::x:=h;have hk:Lj m.key acc=false:=by
    cases e:Lj m.key acc with
    |false=>rfl
    |true=>
     rw[List.map_append,List.nodup_append]at hn;exact absurd rfl (hn.2.2 m.key (T5.1 e) m.key (by simp[Mem.pair]))
   obtain⟨g,q,_,h2,h3⟩:=(R4 (hl m (by simp)) (acc:=acc) hp h' (F4.of (by decide)) hf).2 hk;have h4:=Cj (Cn h');rw[Eb h4 (by decide)]at h2;rw[h3,h2,h4,if_neg (by decide),if_pos rfl];rfl
 |m::z::r,_,hl,f,s,x,p,acc,hn,hp,h,hf=>by
  have h':s.drop p=m.text++44::(Dk ((z::r).map Mem.text)++125::x):=by
   rw[h];simp only[List.map_cons,Dk,List.append_assoc,List.cons_append]
  have hk:Lj m.key acc=false:=by
   cases e:Lj m.key acc with
   |false=>rfl
   |true=>
    rw[List.map_append,List.nodup_append]at hn;exact absurd rfl (hn.2.2 m.key (T5.1 e) m.key (by simp[Mem.pair]))
  obtain⟨g,q,hg,h2,h3⟩:=(R4 (hl m (by simp)) (acc:=acc) hp h' (F4.of (by decide)) hf).2 hk;have h4:=Cj (Cn h');have h6:=Cz h4;rw[Eb h4 (by decide)]at h2;have h5:s.drop (p+m.text.length+1)=Dk ((z::r).map Mem.text)++125::x:=Cn (a:= [44]) (Cn h');rw[h3,h2,h4,if_pos rfl,Qd (z::r) (by simp) (fun w hw=>hl w (by simp[hw])) g s x _ (acc++ [m.pair]) (by simpa using hn) (by omega) h5 (by omega)]
  congr 1
  . simp
  . simp only[List.map_cons,Dk,List.length_append,List.length_cons];omega
theorem Zh {f:Nat} {s:List UInt8} {p:Nat} {d:Int} {acc:List (ByteArray×Val)}:By f s (Aq s p) d acc=By f s p d acc:=by
 cases f with
 |zero=>unfold By;rw[Ea]
 |succ f=>unfold By;rw[Ea]
theorem Ak2 {d:Int} (hd:d<=64) {f:Nat} {s:List UInt8} {p:Nat} (hc:s[p]? =some 123) (hn: ¬(s[Aq s (p+1)]? =some 125)):Cc (f+2) s p d=By f s (p+1) d []:=by
 rw[Ey hc (by decide) hd (by decide),if_neg (by decide),if_pos rfl];unfold Oh;rw[if_neg hn,Zh]
theorem Xi {d:Int} {m:Mem} (hm:m.good d) {s x:List UInt8} {p:Nat} (h:s.drop p=m.text++x):s[Aq s p]? =some 34:=by
 unfold Mem.text at h;rw[List.append_assoc,List.append_assoc]at h;have h1:=Cn h;have c34:s[p+m.pre.length]? =some 34:=Cj (x:=Ae (Bw m.key)++ [34]++(m.mid++58::m.txt++x)) (by rw[h1];rfl);rw[Fu hm.1 h,Eb c34 (by decide),c34]
theorem Alo {d:Int} (hd:d<=64) {l:List Mem} (hl: ∀m ∈ l,m.good (d+1)) (hn:((l.map Mem.pair).map (·.1)).Nodup) {g:List UInt8} (hg:Mt g) (hne:l≠ []->g= []):
 F6 (123::(g++Dk (l.map Mem.text)++ [125])) (Rc (G8 (l.map Mem.pair))) d:=by
 intro f s p x hp hs hx hf;have hc:s[p]? =some 123:=Cj hs;have hlt:=Cz hc;obtain⟨f,rfl⟩: ∃f',f=f'+2:=⟨f - 2,by omega⟩;have h1:s.drop (p+1)=g++(Dk (l.map Mem.text)++125::x):=by
  refine Cn (a:= [123]) ?_;rw[hs];simp
 cases l with
 |nil=>
  have h2:=Cn h1;have h3:s[p+1+g.length]? =some 125:=Cj h2;rw[Ey hc (by decide) hd (by decide),if_neg (by decide),if_pos rfl];unfold Oh;rw[Fu hg h1,Eb h3 (by decide),if_pos h3];refine⟨_,rfl, ?_⟩;simp only[List.map_nil,Dk,List.append_nil,List.length_cons,List.length_append,List.length_nil]
  congr 1;omega
 |cons y r=>
  obtain rfl:=hne (by simp);rw[List.nil_append]at h1;have hfirst:s[Aq s (p+1)]? =some 34:=by
   cases r with
   |nil=>exact Xi (hl y (by simp)) (x:=125::x) (by rw[h1];rfl)
   |cons w r=>
    refine Xi (hl y (by simp)) (x:=44::(Dk ((w::r).map Mem.text)++125::x)) ?_;rw[h1];simp only[List.map_cons,Dk,List.append_assoc,List.cons_append]
  rw[Ak2 hd hc (by rw[hfirst];decide)];rw[Qd (y::r) (by simp) hl f s x (p+1) [] (by simpa using hn) (by omega) h1 (by omega)];refine⟨_,by rw[List.nil_append], ?_⟩;simp only[List.nil_append,List.length_cons,List.length_append,List.length_nil]
  congr 1;omega
theorem N5: ∀{l:List (ByteArray×Val)} {last:Option ByteArray} {d:Int},Ep l last d=0->Ay l/\ ∀q,last=some q-> ∀m ∈ l,Dp q m.1=true
 | [],_,_,_=>⟨List.Pairwise.nil,fun q _ m hm=>by cases hm⟩
 |(k,v)::r,last,d,h=>by
  simp only[Ep]at h;by_cases hP:Q7 (k,v) last d=0
  . rw[if_pos hP]at h;obtain⟨h1,h2⟩:=N5 h;refine⟨List.pairwise_cons.2 ⟨fun m hm=>h2 k rfl m hm,h1⟩,fun q hq m hm=> ?_⟩;subst hq;have hqk:Dp q k=true:=by
     simp only[Q7]at hP
     split at hP
     . split at hP
       . cases hP
       . rename_i hle;unfold leB at hle;simp only[Bool.or_eq_true,not_or]at hle;rcases Kt q k with t|t|t
         . exact t
         . subst t;exact absurd (by simp) hle.2
         . exact absurd t hle.1
     . cases hP
    rcases List.mem_cons.1 hm with rfl|hm
    . exact hqk
    . exact C0 hqk (h2 k rfl m hm)
  . rw[if_neg hP]at h;exact absurd h hP
theorem U9: ∀(l:List Val),Bq l true=Dk (l.map Am)
 | []=>rfl
 | [v]=>by simp[Bq,Dk]
 |v::u::r=>by
  have ih:=U9 (u::r);simp only[Bq,if_true,List.nil_append,List.map_cons,Dk]at ih ⊢;rw[<-ih];simp
theorem Va: ∀(l:List (ByteArray×Val)),Bs l true=Dk (l.map Lq)
 | []=>rfl
 | [v]=>by simp[Bs,Dk]
 |v::u::r=>by
  have ih:=Va (u::r);simp only[Bs,if_true,List.nil_append,List.map_cons,Dk]at ih ⊢;rw[<-ih];simp
def Xh (m:ByteArray×Val):Mem:=⟨[], [],Am m.2,m.1,m.2⟩
theorem Ae0 (m:ByteArray×Val):(Xh m).text=Lq m:=by
 obtain⟨k,v⟩:=m;simp[Xh,Mem.text,Lq]
theorem Uh (l:List (ByteArray×Val)):(l.map Xh).map Mem.pair=l:=by
 rw[List.map_map]
 conv=>rhs;rw[<-List.map_id l]
 exact List.map_congr_left fun x _=>rfl
theorem Ab9 (l:List (ByteArray×Val)):(l.map Xh).map Mem.text=l.map Lq:=by
 rw[List.map_map];exact List.map_congr_left fun x _=>Ae0 x
theorem Afq {l:List (ByteArray×Val)} (h:Ay l):G8 l=l:=by
 unfold G8;rw[Vr (List.Perm.refl l) h];rfl
theorem L1:Mt []:=fun c h=>by cases h
theorem Ail: ∀(v:Val) (d:Int),Au v d=0->J8 v->F6 (Am v) v d:=by
 refine Val.ind ?_;intro k b n t l o hl ho d h hi;obtain⟨h1,hd,hv,h4,h5⟩:=Em h;obtain⟨hk,ht,hln,hon⟩:=Fa h1;obtain⟨hb,hn⟩:=Re h1;simp only[J8]at hi;have e1:k≠5->l= []:=fun e=>List.eq_nil_of_length_eq_zero (hln.resolve_left e);have e2:k≠6->o= []:=fun e=>List.eq_nil_of_length_eq_zero (hon.resolve_left e);have e3:k≠4->t=Fl:=fun e=>ht.resolve_left e;have e4:k≠2->b=false:=fun e=>hb.resolve_left e;have e5:k≠3->n=0:=fun e=>hn.resolve_left e;rcases hk with rfl|rfl|rfl|rfl|rfl|rfl
 . rw[e1 (by decide),e2 (by decide),e3 (by decide),e4 (by decide),e5 (by decide)];have e:Am (.mk 1 false 0 Fl [] [])= [110,117,108,108]:=by simp[Am]
   rw[e];exact Aik hd
 . rw[e1 (by decide),e2 (by decide),e3 (by decide),e5 (by decide)]
   cases b
   . exact Afj hd
   . exact Aim hd
 . rw[e1 (by decide),e2 (by decide),e3 (by decide),e4 (by decide)];have e:Am (.mk 3 false n Fl [] [])=Lib.itoa n:=by simp[Am]
   rw[e];exact Aln hi.1 hd
 . rw[e1 (by decide),e2 (by decide),e4 (by decide),e5 (by decide)];have e:Am (.mk 4 false 0 t [] [])=Bl t:=by simp[Am]
   rw[e];exact Alp hv hd
 . rw[e2 (by decide),e3 (by decide),e4 (by decide),e5 (by decide)];have e:Am (.mk 5 false 0 Fl l [])=91::([]++Dk ((l.map fun v=>(Am v,v)).map (·.1))++ [93]):=by
    simp only[Am,U9,List.map_map,List.nil_append];rfl
   rw[e];have key:=Aij hd (l:=l.map fun v=>(Am v,v)) (fun y hy=>by
    obtain⟨v,hv,rfl⟩:=List.mem_map.1 hy;exact hl v hv (d+1) (G1 h4 v hv) (Agk hi.2.1 hv)) L1 (fun _=>rfl)
   have e6:(l.map fun v=>(Am v,v)).map (·.2)=l:=by
    rw[List.map_map]
    conv=>rhs;rw[<-List.map_id l]
    exact List.map_congr_left fun x _=>rfl
   rw[e6]at key;exact key
 . rw[e1 (by decide),e3 (by decide),e4 (by decide),e5 (by decide)];have hr:=(N5 h5).1;have e:Am (.mk 6 false 0 Fl [] o)=123::([]++Dk ((o.map Xh).map Mem.text)++ [125]):=by
    rw[Ab9,<-Va];simp[Am]
   rw[e];have key:=Alo hd (l:=o.map Xh) (fun m hm=>by
    obtain⟨x,hx,rfl⟩:=List.mem_map.1 hm;obtain⟨k1,k2⟩:=Kb h5 x hx;exact⟨L1,L1,k1,ho x hx (d+1) k2 (Jq hi.2.2 hx)⟩) (by rw[Uh];exact Aas hr) L1 (fun _=>rfl)
   rw[Uh,Afq hr]at key;exact key
theorem Aco {t:List UInt8} {v:Val} (h:F6 t v 1):Fe t=.ok v t.length:=by
 obtain⟨q,h1,h2⟩:=h (4*t.length+4) t 0 [] (Nat.zero_le _) (by simp) F4.nil (by omega);unfold Fe;rw[h1];simp only;rw[h2,Nat.zero_add,Uv (Nat.le_refl _),if_neg (by omega)]
theorem Afc {v:Val} (h:Au v 1=0) (hi:J8 v):Fe (Am v)=.ok v (Am v).length:=Aco (Ail v 1 h hi)
end Go.Proofs.YtkmcjfkokoidcaaGreatDoor
namespace Go.Proofs.YtkmcjfkokoidcaaGreatDoor
end Go.Proofs.YtkmcjfkokoidcaaGreatDoor
namespace Go.Proofs.YtkmcjfkokoidcaaGreatDoor
open Go Go.RowKit
theorem An6 {S:Nat->Prop} {s n c g off:Nat} {w:World} {l:List D} {q:Nat} {d:D} {u0 v1:Value} (h:Ah S w (.row s l) [.slice (some ⟨g,off,none⟩) n c]) (hi:l[q]? =some d) (hu: ∀(w:World) (B:Nat) cs,Ag w B d cs->cs[0]? =some u0) (hv:v1≠u0):
 S g/\ ∀cs:List Value,(∀j u,cs[j]? =some u->w.cell? ⟨g,off+q*s+j,none⟩=some u)->cs.length=s->Ah S w d cs:=by
 obtain⟨g',off',e,hg,cs0,h1,hl0,hc0⟩:=h.now.at_ hi
 cases e
 have hf:=hc0 0 u0 (hu _ _ _ h1);have hge:S g:=by
  refine Classical.byContradiction fun hlt=>hv ?_;obtain⟨g2,off2,e,_,cs1,h2,_,hc1⟩:=(h (w.setCell ⟨g,off+q*s+0,none⟩ v1) (by simp[World.setCell]) (fun p p1 p2=>World.cell?_setCell_far _ _ _ _ (by show g≠p.block;intro e;exact hlt (e▸p1)))).at_ hi
  cases e
  have:=hc1 0 u0 (hu _ _ _ h2);rw[World.cell?_setCell_same _ _ _ hf]at this;exact Option.some.inj this
 refine⟨hge,fun cs hcs hl w'' hs hk=> ?_⟩;obtain⟨g2,off2,e,_,cs2,h2,hl2,hc2⟩:=(h w'' hs hk).at_ hi
 cases e
 have:cs2=cs:=by
  refine List.ext_getElem? fun j=> ?_;by_cases hj:j<s
  . obtain⟨u,hu1⟩: ∃u,cs2[j]? =some u:=⟨_,List.getElem?_eq_getElem (by omega)⟩;obtain⟨u',hu2⟩: ∃u,cs[j]? =some u:=⟨_,List.getElem?_eq_getElem (by omega)⟩;have e1:=hc2 j u hu1;rw[hk _ hge hg,hcs j u' hu2]at e1;rw[hu1,hu2,Option.some.inj e1]
  . rw[List.getElem?_eq_none (by omega),List.getElem?_eq_none (by omega)]
 rw[<-this];exact h2
theorem Fp {S:Nat->Prop} {w:World} {n c:Nat} {l:List (ByteArray×Val)} {a:Option Addr} (h:Ah S w (.row 7 (dO l)) [.slice a n c]) {q:Nat} {key:ByteArray} {k':Int} {b':Bool} {n':Int} {t':ByteArray} {l':List Val} {o':List (ByteArray×Val)} (hi:l[q]? =some (key,.mk k' b' n' t' l' o')):
 ∃g off,a=some ⟨g,off,none⟩/\g<w.heap.size/\ ∃la lc oa oc,Ah S w (dV (.mk k' b' n' t' l' o')) [.int .i64 k',.bool b',.int .i64 n',.string t',.slice la l'.length lc,.slice oa o'.length oc]/\
  w.cell? ⟨g,off+q*7,none⟩=some (.string key)/\w.cell? ⟨g,off+q*7+1,none⟩=some (.int .i64 k')/\w.cell? ⟨g,off+q*7+2,none⟩=some (.bool b')/\
  w.cell? ⟨g,off+q*7+3,none⟩=some (.int .i64 n')/\w.cell? ⟨g,off+q*7+4,none⟩=some (.string t')/\w.cell? ⟨g,off+q*7+5,none⟩=some (.slice la l'.length lc)/\w.cell? ⟨g,off+q*7+6,none⟩=some (.slice oa o'.length oc):=by
 obtain⟨g,off,rfl,hg,la,lc,oa,oc,_,c0,c1,c2,c3,c4,c5,c6⟩:=Agr h.now hi;refine⟨g,off,rfl,hg,la,lc,oa,oc, ?_,c0,c1,c2,c3,c4,c5,c6⟩;have hm:=(An6 (v1:=.bool false) h (d:=dP (key,.mk k' b' n' t' l' o')) (by rw[Bo,List.getElem?_map,hi];rfl) Aj1 (by simp)).2 [.string key,.int .i64 k',.bool b',.int .i64 n',.string t',.slice la l'.length lc,.slice oa o'.length oc] (fun j u hj=>by
  match j with
  |0=>cases hj;exact c0
  |1=>cases hj;exact c1
  |2=>cases hj;exact c2
  |3=>cases hj;exact c3
  |4=>cases hj;exact c4
  |5=>cases hj;exact c5
  |6=>cases hj;exact c6
  |j+7=>simp at hj) rfl
 exact fun w'' h1 h2=>An3 (hm w'' h1 h2)
theorem Ah.base {S:Nat->Prop} {w0 w:World} {d:D} {cs:List Value} (h:Ah S w0 d cs) (hb:Below w0.heap.size w0 w):Ah (fun i=>S i/\i<w0.heap.size) w d cs:=fun w'' h1 h2=>
 (h w'' (Nat.le_trans hb.size h1) fun p p1 p2=>(h2 p ⟨p1,p2⟩ (Nat.lt_of_lt_of_le p2 hb.size)).trans (hb.cell p2)).more hb.size
theorem Rr: ∀a b:List UInt8,Lib.compareBytes a b<0 ↔ Op.bytesLess a b=true
 | [], []=>by decide
 | [],_::_=>by simp[Lib.compareBytes,Op.bytesLess]
 |_::_, []=>by simp[Lib.compareBytes,Op.bytesLess]
 |a::x,b::y=>by
  have ih:=Rr x y;have e1:Lib.compareBytes (a::x) (b::y)=if a<b then -1 else if b<a then 1 else Lib.compareBytes x y:=rfl;have e2:Op.bytesLess (a::x) (b::y)=(decide (a<b)||(a==b&&Op.bytesLess x y)):=rfl;rw[e1,e2];by_cases h:a<b
  . rw[if_pos h];simp[h]
  . rw[if_neg h];by_cases h':b<a
    . rw[if_pos h'];have hne:(a==b)=false:=by rw[beq_eq_false_iff_ne];rintro rfl;exact absurd h' h
      simp[h,hne]
    . rw[if_neg h',ih];have hab:a=b:=UInt8.toNat_inj.1 (by rw[UInt8.lt_iff_toNat_lt]at h h';omega);subst hab;simp[h]
theorem Amc (a b:List UInt8):decide (Lib.compareBytes a b<0)=Op.bytesLess a b:=by
 rw[Bool.eq_iff_iff,decide_eq_true_iff];exact Rr a b
structure MC where
 key:ByteArray
 val:Val
 cs:List Value
 len:cs.length=6
 one: ∀v ∈ cs,v.oneCell'=true
instance:Inhabited MC:=⟨⟨Fl,Nb, [.int .i64 0,.int .i64 0,.int .i64 0,.int .i64 0,.int .i64 0,.int .i64 0],rfl,by simp[Value.oneCell']⟩⟩
def MC.enc (x:MC):List Value:=.string x.key::x.cs
def MC.pair (x:MC):ByteArray×Val:=(x.key,x.val)
def cfM (x y:MC):Int:=Lib.compareBytes x.key.data.toList y.key.data.toList
theorem Amv (x y:MC):ltOf cfM x y=Dp x.key y.key:=by
 unfold ltOf cfM Dp;rw[Amc,Lib.toList_data,Lib.toList_data]
theorem Ao4:Sort.SWO (ltOf cfM) where
 irrefl x:=by rw[Amv];exact Ip _
 trans x y z:=by simp only[Amv];exact C0
 ntrans x y z:=by
  simp only[Amv];intro h1 h2
  cases h3:Dp x.key z.key with
  |false=>rfl
  |true=>
   exfalso
   rcases Kt y.key x.key with h|h|h
   . have:=C0 h h3;rw[h2]at this;cases this
   . rw[<-h]at h3;rw[h2]at h3;cases h3
   . rw[h1]at h;cases h
theorem Ny (x:MC):x.enc.length=7:=by simp[MC.enc,x.len]
theorem Ahl (x:MC): ∀v ∈ x.enc,v.oneCell'=true:=by
 intro v hv;rcases List.mem_cons.1 hv with rfl|hv
 . rfl
 . exact x.one v hv
theorem Ac7 {l:List Value} (h:l.length=6): ∃a b c d e f,l= [a,b,c,d,e,f]:=by
 match l,h with
 | [a,b,c,d,e,f],_=>exact⟨a,b,c,d,e,f,rfl⟩
theorem Anz (x y:MC) (W:World):Calls Tryz.prog 209 #[.agg x.enc.toArray,.agg y.enc.toArray] W fun e w'=>e=.returned (.int .i64 (cfM x y))/\ ∃q os,w'=Sort.grow (W.drewN q) os:=by
 obtain⟨kx,vx,cx,lx,ox⟩:=x;obtain⟨ky,vy,cy,ly,oy⟩:=y;obtain⟨a0,a1,a2,a3,a4,a5,rfl⟩:=Ac7 lx;obtain⟨b0,b1,b2,b3,b4,b5,rfl⟩:=Ac7 ly;have hC:=fun W=>Tryz.strings_Compare kx ky W;have HA:=qz Sort.alloc_eq_grow;simp only[MC.enc,cfM];generalize Lib.compareBytes kx.data.toList ky.data.toList=r at hC ⊢;have n0:=ox a0 (by simp);have n1:=ox a1 (by simp);have n2:=ox a2 (by simp);have n3:=ox a3 (by simp);have n4:=ox a4 (by simp);have n5:=ox a5 (by simp);have m0:=oy b0 (by simp);have m1:=oy b1 (by simp);have m2:=oy b2 (by simp);have m3:=oy b3 (by simp);have m4:=oy b4 (by simp);have m5:=oy b5 (by simp);have HC:=qz hC;clear hC;go_enter Tryz.func209,Tryz.ntmps209;go_wp2_with (fail);(with_reducible refine(HC.out _).mono ?_);rintro e w2 ⟨rfl,rfl⟩;go_wp2;go_ret;refine⟨rfl,0, #[.cells #[.string kx,a0,a1,a2,a3,a4,a5] 94,.cells #[.string ky,b0,b1,b2,b3,b4,b5] 94], ?_⟩;rw[HA.out,HA.out,Sort.grow_grow];rfl
theorem Agd (k:Nat) (hk:0<k): ∀(l:List MC) (t:Nat),(∀x ∈ l,x.enc.length=k)->(l.flatMap MC.enc)[t]? =(l[t / k]?).bind fun x=>x.enc[t % k]?
 | [],t,_=>by simp
 |x::r,t,h=>by
  have hx:=h x (by simp);rw[List.flatMap_cons];by_cases ht:t<k
  . rw[List.getElem?_append_left (by omega),Nat.div_eq_of_lt ht,Nat.mod_eq_of_lt ht];simp
  . rw[List.getElem?_append_right (by omega),hx,Agd k hk r (t - k) (fun y hy=>h y (by simp[hy]))];have h1:t / k=(t - k) / k+1:=by rw[Nat.div_eq_sub_div hk (by omega)]
    have h2:t % k=(t - k) % k:=Nat.mod_eq_sub_mod (by omega);rw[h1,h2,List.getElem?_cons_succ]
theorem O8: ∀l:List MC,(l.flatMap MC.enc).length=l.length*7
 | []=>rfl
 |x::r=>by rw[List.flatMap_cons,List.length_append,O8 r,Ny,List.length_cons];omega
theorem Abn (l:List MC):Sort.flatK MC.enc 7 l.toArray=(l.flatMap MC.enc).toArray:=by
 apply Array.ext
 . rw[Sort.size_flatK,List.size_toArray,List.size_toArray,O8]
 . intro t h1 h2;rw[Sort.size_flatK,List.size_toArray]at h1;have e1:=Sort.get_flatK MC.enc 7 l.toArray t (by simpa using h1);have e2:=Agd 7 (by decide) l t (fun x _=>Ny x);have hd:t / 7<l.length:=by omega
   have hm:t % 7<(l[t / 7]).enc.length:=by rw[Ny];omega
   rw[List.getElem?_eq_getElem hd,Option.bind_some,List.getElem?_eq_getElem hm]at e2;have e3:(l.flatMap MC.enc)[t]'(by simpa using h2)=(l[t / 7]).enc[t % 7]:=by
    rw[List.getElem?_eq_getElem (by simpa using h2)]at e2;exact Option.some.inj e2
   rw[getElem!_pos _ t (by rw[Sort.size_flatK];simpa using h1)]at e1;rw[e1,tk1,e3];have e4:(l.toArray)[t / 7]! =l[t / 7]:=by rw[getElem!_pos _ _ (by simpa using hd)];simp
   rw[e4,getElem!_pos (l[t / 7]).enc (t % 7) hm]
theorem Aa5 {F:World->Prop} {B:Nat}: ∀(acc:List (ByteArray×Val)) (ns:List Value),(∃w,F w)->(∀w'',F w''->Af w'' B (dO acc) ns)->
 ∃d:List MC,d.map MC.pair=acc/\ns=d.flatMap MC.enc/\ ∀w'',F w''-> ∀x ∈ d,Ag w'' B (dP x.pair) x.enc
 | [],ns,⟨w,hw⟩,h=>⟨[],rfl,h w hw,by simp⟩
 |m::r,ns,⟨w,hw⟩,h=>by
  have h0:=h w hw;simp only[dO,Af]at h0;obtain⟨c1,c2,rfl,h1,h2⟩:=h0;have l1:=h1.len;rw[C7]at l1;have h1':=h1;obtain⟨k,v⟩:=m;simp only[dP,Ag,Af]at h1';obtain⟨e1,e2,rfl,⟨rfl,_⟩,e3,e4,rfl,hV,rfl⟩:=h1';rw[List.append_nil]at*
  have l6:e3.length=6:=by have:=l1.1;simp at this;omega
  have key: ∀w'',F w''->Ag w'' B (dP (k,v)) (.string k::e3)/\Af w'' B (dO r) c2:=by
   intro w'' hw'';have h3:=h w'' hw'';simp only[dO,Af]at h3;obtain⟨f1,f2,e,g1,g2⟩:=h3;have l2:=g1.len.1;rw[C7]at l2;obtain⟨rfl,rfl⟩:=List.append_inj e (by rw[l2];simpa using l6);exact⟨g1,g2⟩
  obtain⟨d,d1,d2,d3⟩:=Aa5 r c2 ⟨w,hw⟩ (fun w'' hw''=>(key w'' hw'').2);refine⟨⟨k,v,e3,l6,fun u hu=>l1.2 u (by simp[hu])⟩::d,by simp[MC.pair,d1],by simp[MC.enc,d2],fun w'' hw'' x hx=> ?_⟩;rcases List.mem_cons.1 hx with rfl|hx
  . exact(key w'' hw'').1
  . exact d3 w'' hw'' x hx
theorem M8 {w:World} {B:Nat}: ∀(d:List MC),(∀x ∈ d,Ag w B (dP x.pair) x.enc)->Af w B (dO (d.map MC.pair)) (d.flatMap MC.enc)
 | [],_=>rfl
 |x::r,h=>by
  simp only[List.map_cons,dO,List.flatMap_cons,Af];exact⟨x.enc,_,rfl,h x (by simp),M8 r (fun y hy=>h y (by simp[hy]))⟩
theorem Aaa {d d':List MC} (hp:d'.Perm d) (hn:((d.map MC.pair).map (·.1)).Nodup) (hs: ∀i j,(hij:i<j)->(h:j<d'.length)->Dp (d'[j]).key (d'[i]'(by omega)).key=false):d'.map MC.pair=G8 (d.map MC.pair):=by
 obtain⟨_,s2,s3⟩:=U6 hn;refine Oy ?_ s2 ((hp.map MC.pair).trans s3.symm);have hn':((d'.map MC.pair).map (·.1)).Nodup:=(((hp.map MC.pair).map (·.1)).nodup_iff).2 hn;unfold Ay;rw[List.pairwise_iff_getElem];intro i j hi hj hij;simp only[List.length_map]at hi hj;simp only[List.getElem_map,MC.pair];rcases Kt (d'[i]).key (d'[j]).key with h|h|h
 . exact h
 . rw[List.map_map,List.nodup_iff_pairwise_ne,List.pairwise_iff_getElem]at hn';exact absurd (by rw[List.getElem_map,List.getElem_map];exact h) (hn' i j (by simpa using hi) (by simpa using hj) hij)
 . rw[hs i j hij hj]at h;cases h
theorem Alm {w:World} {g n:Nat} {os:Array Obj} {cur F:Array Value} {e:TypeId} {fr:Nat×Nat} (hb:w.heap[g]? =some (.cells cur e fr)):
 (Sort.grow (Sort.putRow id (Sort.ahead w n) g 0 F) os).heap[g]? =some (.cells (Sort.putCells id 0 F cur) e fr):=by
 have hg:g<w.heap.size:=(Array.getElem?_eq_some_iff.1 hb).1;rw[Sort.heap_grow_old _ _ (by simpa using hg)];simp[Sort.putRow,Sort.mapBlock,Sort.ahead,Array.getElem?_modify,hb,Sort.onCells]
theorem Acs {w:World} {g n:Nat} {os:Array Obj} (F:Array Value):w.grownBy (Sort.grow (Sort.putRow id (Sort.ahead w n) g 0 F) os) (some g):=by
 refine⟨rfl,rfl,rfl,by simp,fun k hk hne=> ?_⟩;rw[Sort.heap_grow_old _ _ (by simpa using hk)];have:g≠k:=fun e=>hne (by rw[e]);simp[Sort.putRow,Sort.mapBlock,Sort.ahead,Array.getElem?_modify,this]
theorem Wd {b:Nat} {w:World} {acc:List (ByteArray×Val)} {V:Value} (hr:E5 b 94 7 w (dO acc) V) (hb:b<=w.heap.size) (hn:(acc.map (·.1)).Nodup) (hlen:acc.length<=1000000000):
 Calls Tryz.prog 208 #[V,.func (.func 209) #[] #[]] w fun e w'=>e=.returned (.tuple #[])/\w.grownBy w' V.ownBlock/\Ch b w' (.row 7 (dO (G8 acc))) [V]:=by
 have hr0:=hr;obtain⟨ns,h1,h2,h3⟩:=hr;rcases h1.2 with⟨rfl,h0⟩|⟨g,cap,cur,rfl,hbg,hg,hnc,_,hsz,htk⟩
 . have hl:acc= []:=by rw[Av]at h0;exact List.eq_nil_of_length_eq_zero h0
   subst hl;refine(AnyF.slices_SortFunc_none Tryz.sortFunc none 0 (.func (.func 209) #[] #[]) w).mono ?_;rintro e w' ⟨rfl,rfl⟩;exact⟨rfl,World.grownBy.refl _ _,fun _ _ _=>⟨none,0,rfl,by simp[G8,D8,dO], [],rfl,by simp[G8,D8,dO]⟩⟩
 . have hgl:=(Array.getElem?_eq_some_iff.1 hg).1;obtain⟨d,rfl,rfl,d3⟩:=Aa5 (F:=fun w''=>w.heap.size<=w''.heap.size/\ ∀p:Addr,b<=p.block->p.block<w.heap.size->(Value.slice (some ⟨g,0,none⟩) (dO acc).length cap).ownBlock≠some p.block->w''.cell? p=w.cell? p) acc ns ⟨w,Nat.le_refl _,fun _ _ _ _=>rfl⟩ (fun w'' hw=>h3 w'' hw.1 hw.2);have hdl:(dO (d.map MC.pair)).length=d.toArray.size:=by rw[Av];simp
   have hH:Sort.HoldsK MC.enc 7 w g 0 d.toArray:=by
    unfold Sort.HoldsK;rw[Abn];intro j hj;have hj':j<(d.flatMap MC.enc).length:=by simpa using hj
    have h5:=h1.cells (g:=g) rfl j ((d.flatMap MC.enc)[j]) (List.getElem?_eq_getElem hj');rw[Bn]at h5;rw[getElem!_pos _ j hj];exact⟨h5,(show Aj w g 94 cur from hg).frozen _⟩
   have eg: ∀args w,(callFunc 209 args).run Tryz.prog w=.ok (.enter 209 args) w:=enters_of Tryz.func209 (by kernel_rfl) rfl;have hC:CmpLays Tryz.prog 209 #[] MC.enc 7 cfM g 0 d.toArray.size w:=fun m os dk _ x y=>Anz x y _;have hS:=AnyQ.slices_SortFunc Tryz.sortFunc 7 (fun w=>by kernel_rfl) (fun w=>by kernel_rfl) MC.enc Ny Ahl cfM Ao4 209 #[] g 0 cap d.toArray w eg hC hH hgl (by simp at hlen ⊢;omega);rw[hdl];refine hS.mono ?_;rintro e w' ⟨rfl,d',n,os,hp,hso,rfl⟩;obtain⟨p1,_,p3⟩:=hp;rw[Array.extract_size,<-p1,Array.extract_size]at p3;have hpe:d'.toList.Perm d:=by simpa using p3
   have hsp:=Aaa hpe hn (fun i j hij hj=>by
    have:=hso i j (Nat.zero_le _) hij (by rw[<-p1];simpa using hj);rw[Amv,getElem!_pos d' j (by simpa using hj),getElem!_pos d' i (by have:j<d'.size:=(by simpa using hj);omega)]at this;simpa using this)
   have hF:Sort.flatK MC.enc 7 d'=(d'.toList.flatMap MC.enc).toArray:=by rw[<-Abn]
   have hgb:w.grownBy (sortWorldK MC.enc 7 w g 0 n d' os) (some g):=Acs _;refine⟨rfl,hgb,fun w'' k1 k2=> ?_⟩;have hsl:(G8 (d.map MC.pair)).length=d.toArray.size:=by rw[<-hsp,List.length_map,Array.length_toList,p1]
   refine⟨_,cap,by rw[Av,hsl],Es _,d'.toList.flatMap MC.enc, ?_,.inr ⟨g,0,rfl,Nat.lt_of_lt_of_le hgl hgb.size,fun j u hu=> ?_⟩⟩
   . rw[<-hsp];refine M8 _ fun x hx=> ?_;have hxd:x ∈ d:=hpe.mem_iff.1 hx;refine Ag.more (d3 w'' ⟨Nat.le_trans hgb.size k1,fun p q1 q2 q3=> ?_⟩ x hxd) hgb.size;exact(k2 p q1 (Nat.lt_of_lt_of_le q2 hgb.size)).trans (World.cell?_of_block (hgb.block p.block q2 (fun e=>q3 e.symm)))
   . rw[Nat.zero_add];have hj:j<(d'.toList.flatMap MC.enc).length:=(List.getElem?_eq_some_iff.1 hu).1;have hjs:j<cur.size:=by
      rw[O8,Array.length_toList,p1]at hj;rw[hsz];have:d.toArray.size<=cap:=by rw[<-hdl];exact hnc
      have:=Nat.mul_le_mul_right 7 this;omega
     refine(k2 ⟨g,j,none⟩ hbg (Nat.lt_of_lt_of_le hgl hgb.size)).trans ?_;have hh:=Alm (n:=n) (os:=os) (F:=Sort.flatK MC.enc 7 d') hg;have hc:=(show Aj (Sort.grow (Sort.putRow id (Sort.ahead w n) g 0 (Sort.flatK MC.enc 7 d')) os) g 94 _ from hh).cell j;refine hc.trans ?_;rw[hF];have hjl:j<(d'.toList.map fun a=>a.enc.length).sum:=by rw[<-List.length_flatMap];exact hj
     simp[Sort.putCells,hjs,hjl];exact(List.getElem?_eq_some_iff.1 hu).2
end Go.Proofs.YtkmcjfkokoidcaaGreatDoor
