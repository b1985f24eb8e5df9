/- Parts: Texts are read as the values that they are texts of, whatever blanks stand between their parts. Plain. No condition. -/
import Derived.Test.YtmglfdckpjegdaaGreatDoorKMu15
namespace Go.Proofs.YtmglfdckpjegdaaGreatDoor
open Go.RowKit
def Il (x:List UInt8):Prop:= ∀c y,x=c::y->E3 c=false
def Ol (g:List UInt8):Prop:= ∀c ∈ g,H9 c=true
theorem C5 {s a x:List UInt8} {p:Nat} (h:s.drop p=a++x):s.drop (p+a.length)=x:=by
 rw[<-List.drop_drop,h,List.drop_left]
theorem Ou {s a x:List UInt8} {p:Nat} (h:s.drop p=a++x) (hp:p<=s.length):p+a.length<=s.length:=by
 have:=congrArg List.length h;rw[List.length_drop,List.length_append]at this;omega
theorem Cv {s x:List UInt8} {p:Nat} {c:UInt8} (h:s.drop p=c::x):s[p]? =some c:=by
 have:=List.getElem?_drop (xs:=s) (i:=p) (j:=0);rw[h]at this;simpa using this.symm
theorem Hh: ∀{g:List UInt8},Ol g-> ∀{s x:List UInt8} {p:Nat},s.drop p=g++x->Ay s p=Ay s (p+g.length)
 | [],_,_,_,_,_=>rfl
 |c::g,hg,s,x,p,h=>by
  rw[Zi (Cv h) (hg c (by simp))];have h2:s.drop (p+1)=g++x:=C5 (a:= [c]) (x:=g++x) (by simpa using h);rw[Hh (fun c hc=>hg c (by simp[hc])) h2,List.length_cons]
  congr 1;omega
theorem Wz {f:Nat} {s:List UInt8} {p p':Nat} {d:Int} (h:Ay s p=Ay s p'):Ch f s p d=Ch f s p' d:=by
 cases f with
 |zero=>unfold Ch;rw[h]
 |succ f=>unfold Ch;rw[h]
def Ir (t:List UInt8) (v:Val) (d:Int):Prop:= ∀f s p x,p<=s.length->s.drop p=t++x->Il x->4*(s.length - p)+1<=f-> ∃q,Ch f s p d=.ok v q/\Ay s q=Ay s (p+t.length)
theorem Il.blanks {g x:List UInt8} (hg:Ol g) (hx:Il x):Il (g++x):=by
 intro c y h
 cases g with
 |nil=>exact hx c y h
 |cons a g=>
  have:a=c:=(List.cons.inj h).1;subst this;have:=hg a (by simp);unfold H9 at this;simp only[Bool.or_eq_true,beq_iff_eq]at this;rcases this with((rfl|rfl)|rfl)|rfl<;>decide
theorem Il.of {c:UInt8} {y:List UInt8} (h:E3 c=false):Il (c::y):=by
 intro c' y' e;rw[<-(List.cons.inj e).1];exact h
theorem Il.nil:Il []:=by intro c y e;cases e
theorem Ir.ahead {t:List UInt8} {v:Val} {d:Int} (h:Ir t v d) {g:List UInt8} (hg:Ol g):Ir (g++t) v d:=by
 intro f s p x hp hs hx hf;rw[List.append_assoc]at hs;have h1:=Hh hg hs;have h2:=C5 hs;have h3:=Ou hs hp;obtain⟨q,h4,h5⟩:=h f s (p+g.length) x h3 h2 hx (by omega);refine⟨q,by rw[Wz h1];exact h4, ?_⟩;rw[h5,List.length_append]
 congr 1;omega
theorem F9 {f:Nat} {s:List UInt8} {p:Nat} {d:Int} {c:UInt8} (hc:s[p]? =some c) (hb:Ik c=true) (hd:d<=64) (hbl:H9 c=false):Ch (f+1) s p d=
 (if c=91 then L2 f s p d
   else if c=123 then P9 f s p d
   else if c=34 then(Fk s p).map Aei
   else if c=110 then Ec s p [110,117,108,108] O3
   else if c=116 then Ec s p [116,114,117,101] (J6 true)
   else if c=102 then Ec s p [102,97,108,115,101] (J6 false)
   else(Eb s p).map Sn):=by
 conv=>lhs;unfold Ch
 rw[Fg hc hbl,hc];simp only;rw[if_neg (by rw[hb];decide),if_neg (by omega)]
theorem Abn {s w x:List UInt8} {p:Nat} (h:s.drop p=w++x) (v:Val):Ec s p w v=.ok v (p+w.length):=by
 unfold Ec;rw[h,if_pos (by rw[List.isPrefixOf_iff_prefix];exact⟨x,rfl⟩)]
theorem Ajm {d:Int} (hd:d<=64):Ir [110,117,108,108] O3 d:=by
 intro f s p x hp hs hx hf;obtain⟨f,rfl⟩: ∃f',f=f'+1:=⟨f - 1,by omega⟩;refine⟨_, ?_,rfl⟩;rw[F9 (Cv hs) (by decide) hd (by decide),if_neg (by decide),if_neg (by decide),if_neg (by decide),if_pos rfl];exact Abn hs _
theorem Ajo {d:Int} (hd:d<=64):Ir [116,114,117,101] (J6 true) d:=by
 intro f s p x hp hs hx hf;obtain⟨f,rfl⟩: ∃f',f=f'+1:=⟨f - 1,by omega⟩;refine⟨_, ?_,rfl⟩;rw[F9 (Cv hs) (by decide) hd (by decide),if_neg (by decide),if_neg (by decide),if_neg (by decide),if_neg (by decide),if_pos rfl];exact Abn hs _
theorem Ago {d:Int} (hd:d<=64):Ir [102,97,108,115,101] (J6 false) d:=by
 intro f s p x hp hs hx hf;obtain⟨f,rfl⟩: ∃f',f=f'+1:=⟨f - 1,by omega⟩;refine⟨_, ?_,rfl⟩;rw[F9 (Cv hs) (by decide) hd (by decide),if_neg (by decide),if_neg (by decide),if_neg (by decide),if_neg (by decide),if_neg (by decide),if_pos rfl];exact Abn hs _
theorem Uk {c:UInt8}:E3 c=true ↔ 48<=c.toNat/\c.toNat<=57:=by unfold E3;simp
theorem Aci: ∀{a x:List UInt8},(∀c ∈ a,E3 c=true)->Il x->Sh (a++x)=a.length
 | [], [],_,_=>rfl
 | [],c::y,_,hx=>by
   show Sh (c::y)=0;unfold Sh;rw[if_neg (by rw[hx c y rfl];decide)]
 |c::a,x,ha,hx=>by
  rw[List.cons_append];unfold Sh;rw[if_pos (ha c (by simp)),Aci (fun y hy=>ha y (by simp[hy])) hx,List.length_cons]
theorem U7 {u:Nat} (h:u≠0): ∃c y,Gt u=c::y/\c≠48:=by
 induction u using Nat.strongRecOn with
 |_ u ih=>
  rw[M6 h];by_cases h0:u / 10=0
  . rw[h0,Ke,List.nil_append];refine⟨_, [],rfl, ?_⟩;have hd: ∀d:Fin 10,d.val≠0->dgt d.val≠48:=by decide
    exact hd ⟨u % 10,by omega⟩ (by simp only;omega)
  . obtain⟨c,y,e,hc⟩:=ih (u / 10) (by omega) h0;exact⟨c,y++ [dgt (u % 10)],by rw[e];rfl,hc⟩
theorem Anr {u:Nat} (h:u≠0):Gt u≠ []:=by
 obtain⟨c,y,e,_⟩:=U7 h;rw[e];simp
theorem Ahh {s a x:List UInt8} {f:Nat} (h:s.drop f=a++x) (ha: ∀c ∈ a,E3 c=true) (hx:Il x):Dg s f=f+a.length/\(s.drop f).take (Dg s f - f)=a:=by
 have e:Dg s f=f+a.length:=by unfold Dg;rw[h,Aci ha hx]
 refine⟨e, ?_⟩;rw[e,h,Nat.add_sub_cancel_left,List.take_left'];rfl
theorem Aa3 {s a x:List UInt8} {p:Nat} (h:s.drop p=a++x) (ha: ∀c ∈ a,E3 c=true) (hx:Il x) (hne:a≠ []) (hz:a[0]? =some 48->a.length=1):Eb s p=Ah3 false (Kd a) p (p+a.length):=by
 obtain⟨c,y,rfl⟩: ∃c y,a=c::y:=by cases a with
  |nil=>exact absurd rfl hne
  |cons c y=>exact⟨c,y,rfl⟩
 obtain⟨e1,e2⟩:=Ahh h ha hx;have hc:s[p]? =some c:=Cv h;have hd:=Uk.1 (ha c (by simp));have h45: ¬(s[p]? =some 45):=by
  rw[hc];intro e;have:c=45:=Option.some.inj e;subst this;have:(45:UInt8).toNat=45:=rfl;omega
 unfold Eb;rw[if_neg h45];unfold Ps;rw[e2,e1,if_neg (by simp),decide_eq_false h45,if_neg];rintro⟨h1,h2⟩;rw[hc]at h1;have:=hz (by simpa using h1);omega
theorem Aa2 {s a x:List UInt8} {p:Nat} (h:s.drop p=45::(a++x)) (ha: ∀c ∈ a,E3 c=true) (hx:Il x) (hne:a≠ []) (hz:a[0]? =some 48->a.length=1):Eb s p=Ah3 true (Kd a) p (p+1+a.length):=by
 have h1:s.drop (p+1)=a++x:=C5 (a:= [45]) h;obtain⟨c,y,rfl⟩: ∃c y,a=c::y:=by cases a with
  |nil=>exact absurd rfl hne
  |cons c y=>exact⟨c,y,rfl⟩
 obtain⟨e1,e2⟩:=Ahh h1 ha hx;have hc:s[p+1]? =some c:=Cv h1;have h45:s[p]? =some 45:=Cv h;unfold Eb;rw[if_pos h45];unfold Ps;rw[e2,e1,if_neg (by simp),decide_eq_true h45,if_neg];rintro⟨h2,h3⟩;rw[hc]at h2;have:=hz (by simpa using h2);omega
theorem Aim (u:Nat):Kd (Gt u)=u:=St u
def Xf (u:Nat):List UInt8:=if u=0 then [48]else Gt u
theorem Acc (u:Nat):(∀c ∈ Xf u,E3 c=true)/\Xf u≠ []/\((Xf u)[0]? =some 48->(Xf u).length=1)/\Kd (Xf u)=u:=by
 unfold Xf
 split
 . rename_i h;subst h;exact⟨by decide,by decide,fun _=>rfl,rfl⟩
 . rename_i h;refine⟨fun c hc=>Uk.2 (Nv u c hc),Anr h,fun e=> ?_,Aim u⟩;obtain⟨c,y,e1,hc⟩:=U7 h;rw[e1]at e;simp only[List.getElem?_cons_zero,Option.some.injEq]at e;exact absurd e hc
theorem Ai3 (n:Int):Lib.itoa n=if n<0 then 45::Xf n.natAbs else Xf n.toNat:=by
 by_cases h:n<0
 . rw[if_pos h,Lib.itoa,if_pos h,<-Jn _ (by omega)];unfold Xf;rw[if_neg (by omega)]
 . rw[if_neg h,Lib.itoa,if_neg h];unfold Xf;by_cases h0:n=0
   . subst h0;show Lib.decDigits 0=if(0:Nat)=0 then [48]else Gt 0;rw[if_pos rfl];exact Lib.decDigits_one (i:=0) (by omega)
   . rw[if_neg (by omega),Jn _ (by omega)]
theorem Ads {n:Int} (h: -9223372036854775808<=n/\n<=9223372036854775807) {s x:List UInt8} {p:Nat} (hs:s.drop p=Lib.itoa n++x) (hx:Il x):Eb s p=.ok n (p+(Lib.itoa n).length):=by
 rw[Ai3]at hs ⊢
 split at hs
 . rename_i hn;obtain⟨h1,h2,h3,h4⟩:=Acc n.natAbs;rw[Aa2 hs h1 hx h2 h3,h4,if_pos hn];unfold Ah3;rw[if_pos rfl,if_neg (by omega),List.length_cons]
   congr 1
   . omega
   . omega
 . rename_i hn;obtain⟨h1,h2,h3,h4⟩:=Acc n.toNat;rw[Aa3 hs h1 hx h2 h3,h4,if_neg hn];unfold Ah3;rw[if_neg (by decide),if_neg (by omega)]
   congr 1
   omega
theorem Agz {c:UInt8} (h:E3 c=true\/c=45):Ik c=true/\H9 c=false/\c≠91/\c≠123/\c≠34/\c≠110/\c≠116/\c≠102:=by
 rcases h with h|rfl
 . have hd:=Uk.1 h;have ne: ∀k:UInt8,(k.toNat<48\/57<k.toNat)->c≠k:=by
    rintro k hk rfl;omega
   refine⟨by unfold Ik;rw[h];rfl, ?_,ne _ (by decide),ne _ (by decide),ne _ (by decide),ne _ (by decide),ne _ (by decide),ne _ (by decide)⟩;unfold H9;simp only[Bool.or_eq_false_iff,beq_eq_false_iff_ne];exact⟨⟨⟨ne _ (by decide),ne _ (by decide)⟩,ne _ (by decide)⟩,ne _ (by decide)⟩
 . decide
theorem Aj8 {f:Nat} {s:List UInt8} {p:Nat} {d:Int} (hd:d<=64) {c:UInt8} (hc:s[p]? =some c) (h:E3 c=true\/c=45):Ch (f+1) s p d=(Eb s p).map Sn:=by
 obtain⟨h1,h2,h3,h4,h5,h6,h7,h8⟩:=Agz h;rw[F9 hc h1 hd h2,if_neg h3,if_neg h4,if_neg h5,if_neg h6,if_neg h7,if_neg h8]
theorem Amu {n:Int} (h: -9223372036854775808<=n/\n<=9223372036854775807) {d:Int} (hd:d<=64):Ir (Lib.itoa n) (Sn n) d:=by
 intro f s p x hp hs hx hf;obtain⟨f,rfl⟩: ∃f',f=f'+1:=⟨f - 1,by omega⟩;refine⟨_, ?_,rfl⟩;obtain⟨c,y,e⟩: ∃c y,Lib.itoa n=c::y:=by
  cases hi:Lib.itoa n with
  |nil=>exact absurd hi (Aaw n)
  |cons c y=>exact⟨c,y,rfl⟩
 have hc:s[p]? =some c:=Cv (x:=y++x) (by rw[hs,e];rfl);have hr:=N2 n c (by rw[e];simp);have hr':E3 c=true\/c=45:=by
  rcases hr with hr|hr
  . exact .inr (UInt8.toNat_inj.1 hr)
  . exact .inl (Uk.2 hr)
 rw[Aj8 hd hc hr',Ads h hs hx];rfl
theorem Air: ∀r:Fin 128,(r.val<32\/r.val=34\/r.val=92)->(Am r.val).getD 0 0=92/\(((Am r.val).length=2/\(Am r.val).getD 1 0≠117/\Ms ((Am r.val).getD 1 0)=some r.val)\/
 ((Am r.val).length=6/\(Am r.val).getD 1 0=117/\Oi ((Am r.val).drop 2) 4 0=some r.val)):=by decide+kernel
theorem Acv: ∀(k:Nat) (l x:List UInt8) (n r:Nat),Oi l k n=some r->Oi (l++x) k n=some r
 |0,l,x,n,r,h=>by cases l<;>(cases x<;>simpa[Oi]using h)
 |k+1, [],x,n,r,h=>by simp[Oi]at h
 |k+1,c::l,x,n,r,h=>by
  rw[List.cons_append];simp only[Oi]at h ⊢
  cases hd:Xh c with
  |none=>rw[hd]at h;cases h
  |some d=>
   rw[hd]at h;exact Acv k l x _ r h
theorem Ais {r:Nat} (hr:r<32\/r=34\/r=92) (x:List UInt8):Md (Am r++x)=.ok r (Am r).length/\ ∃y,Am r=92::y:=by
 obtain⟨h0,h1⟩:=Air ⟨r,by omega⟩ hr;simp only at h0 h1;obtain⟨a,y,e⟩: ∃a y,Am r=a::y:=by
  cases hq:Am r with
  |nil=>rw[hq]at h1;simp at h1
  |cons a y=>exact⟨a,y,rfl⟩
 have ha:a=92:=by rw[e]at h0;exact h0
 subst ha;refine⟨?_,y,e⟩;rw[e]at h1 ⊢;rcases h1 with⟨hl,h2,h3⟩|⟨hl,h2,h3⟩
 . match y,hl with
   | [c],_=>
     have h2':c≠117:=h2;have h3':Ms c=some r:=h3;unfold Md Iq;rw[if_pos (by right;right;simpa using h2')];simp only[Xj,List.cons_append,List.nil_append,List.getElem?_cons_succ,List.getElem?_cons_zero];rw[h3'];rfl
 . match y,hl with
   | [c,d,e1,e2,e3],_=>
     have h2':c=117:=h2;subst h2';have h3':Oi [d,e1,e2,e3] 4 0=some r:=h3;have h4:=Acv 4 _ x _ _ h3';unfold Md Iq;rw[if_neg (by simp)];simp only[List.cons_append,List.nil_append,List.drop_succ_cons,List.drop_zero]at h4 ⊢;rw[h4];simp only[Lb];rw[if_pos (by omega)];rfl
theorem Z3: ∀(L:List (Nat×Nat)),(∀x ∈ L,D3 x.2)-> ∀(f:Nat) (s x:List UInt8) (i:Nat) (out:List UInt8),s.drop i=Af L++34::x->i<=s.length->s.length - i<=f->
 Ko f s i out=.ok (out++L.flatMap fun y=>Lib.encodeRune (y.2:Int)) (i+(Af L).length+1)
 | [],_,f,s,x,i,out,h,hi,hf=>by
   have h':s.drop i=34::x:=h;have hc:=Cv h';have:=Dp hc;obtain⟨f,rfl⟩: ∃f',f=f'+1:=⟨f - 1,by omega⟩;unfold Ko;rw[hc];simp[Af]
 |a::L,hL,f,s,x,i,out,h,hi,hf=>by
  have ha:=hL a (by simp);have e2:Af (a::L)=Am a.2++Af L:=by simp[Af]
  rw[e2,List.append_assoc]at h;obtain⟨c,y,hq,hn⟩:=Li ha;have hc:s[i]? =some c:=Cv (x:=y++(Af L++34::x)) (by rw[h,hq];rfl);have hlt:=Dp hc;obtain⟨f,rfl⟩: ∃f',f=f'+1:=⟨f - 1,by omega⟩;have hlen:0<(Am a.2).length:=by rw[hq];simp
  have h1:=C5 h;have h2:=Ou h hi;have rec_:=Z3 L (fun z hz=>hL z (by simp[hz])) f s x (i+(Am a.2).length) (out++Lib.encodeRune (a.2:Int)) h1 h2 (by omega);have efin:(Rd.ok (out++Lib.encodeRune (a.2:Int)++L.flatMap fun y=>Lib.encodeRune (y.2:Int)) (i+(Am a.2).length+(Af L).length+1):Rd (List UInt8))=.ok (out++(a::L).flatMap fun y=>Lib.encodeRune (y.2:Int)) (i+(Af (a::L)).length+1):=by
   rw[List.flatMap_cons,List.append_assoc,e2,List.length_append]
   congr 1
   omega
  rw[<-efin,<-rec_]
  conv=>lhs;unfold Ko
  rw[hc];simp only;rw[if_neg hn];by_cases hp:32<=a.2/\a.2≠34/\a.2≠92
  . have e:Am a.2=Lib.encodeRune a.2:=by unfold Am;rw[if_pos hp]
    have hb:=Jo ha c (by rw[<-e,hq];simp);have c32: ¬c.toNat<32:=by omega
    have c92:c≠92:=by
     rintro rfl;have:(92:UInt8).toNat=92:=rfl;omega
    have hdec:Lib.decodeL (s.drop i)=(a.2,(Lib.encodeRune (a.2:Int)).length):=by rw[h,e];exact Acd ha _
    have hnot: ¬((Lib.decodeL (s.drop i)).1=65533/\(Lib.decodeL (s.drop i)).2=1):=by
     rw[hdec];rintro⟨e1,e3⟩;simp only at e1 e3;rw[e1]at e3;have:(Lib.encodeRune ((65533:Nat):Int)).length=3:=by decide+kernel
     omega
    rw[if_neg c32,if_neg c92,if_neg hnot,hdec,h,e];simp only;rw[List.take_left'];rfl
  . obtain⟨h3,y',h4⟩:=Ais (r:=a.2) (by omega) (Af L++34::x);have c92:c=92:=by
     rw[hq]at h4;exact(List.cons.inj h4).1
    subst c92;rw[if_neg (by decide),if_pos rfl,h,h3]
theorem Z0 {a:ByteArray} (ha:Aw a=true) {s x:List UInt8} {p:Nat} (h:s.drop p=Bp a++x):Fk s p=.ok a.data.toList (p+(Bp a).length):=by
 unfold Bp at h;rw[List.append_assoc]at h;have h':s.drop p=34::(Af (Ca a)++34::x):=h;have hc:=Cv h';have hl:=Dp hc;have h1:s.drop (p+1)=Af (Ca a)++34::x:=C5 (a:= [34]) h';unfold Fk;rw[if_pos hc,Z3 (Ca a) (Ew _ _ _) _ s x (p+1) [] h1 (by omega) (by omega)];unfold Bp Ca;rw[N8 a.size a.data.toList 0 (by rw[Nh];exact Nat.le_refl _) ha];rw[List.nil_append]
 congr 1
 simp only[List.length_append,List.length_cons,List.length_nil];omega
theorem Aah (a:ByteArray):(⟨a.data.toList.toArray⟩:ByteArray)=a:=by
 apply ByteArray.ext;simp
theorem Amw {a:ByteArray} (ha:Aw a=true) {d:Int} (hd:d<=64):Ir (Bp a) (.mk 4 false 0 a [] []) d:=by
 intro f s p x hp hs hx hf;obtain⟨f,rfl⟩: ∃f',f=f'+1:=⟨f - 1,by omega⟩;have hc:s[p]? =some 34:=Cv (x:=Af (Ca a)++ [34]++x) (by rw[hs];rfl);refine⟨_, ?_,rfl⟩;rw[F9 hc (by decide) hd (by decide),if_neg (by decide),if_neg (by decide),if_pos rfl,Z0 ha hs];simp only[Rd.map,Aei,Aah]
def Eh:List (List UInt8)->List UInt8
 | []=> []
 | [t]=>t
 |t::u::r=>t++44::Eh (u::r)
theorem Vl {d:Int} (hd:d<=64): ∀(l:List (List UInt8×Val)),l≠ []->(∀y ∈ l,Ir y.1 y.2 (d+1))-> ∀(f:Nat) (s x:List UInt8) (p:Nat) (acc:List Val),p<=s.length->s.drop p=Eh (l.map (·.1))++93::x->4*(s.length - p)+2<=f->
 Fa f s p d acc=.ok (Uc (acc++l.map (·.2))) (p+(Eh (l.map (·.1))).length+1)
 | [y],_,hl,f,s,x,p,acc,hp,h,hf=>by
   obtain⟨f,rfl⟩: ∃f',f=f'+1:=⟨f - 1,by omega⟩;have h':s.drop p=y.1++93::x:=h;obtain⟨q,h1,h2⟩:=hl y (by simp) f s p (93::x) hp h' (Il.of (by decide)) (by omega);have h3:=Cv (C5 h');rw[Fg h3 (by decide)]at h2
   conv=>lhs;unfold Fa
   rw[h1];simp only;rw[h2,h3,if_neg (by decide),if_pos rfl];rfl
 |y::z::r,_,hl,f,s,x,p,acc,hp,h,hf=>by
  obtain⟨f,rfl⟩: ∃f',f=f'+1:=⟨f - 1,by omega⟩;have h':s.drop p=y.1++44::(Eh ((z::r).map (·.1))++93::x):=by
   rw[h];simp only[List.map_cons,Eh,List.append_assoc,List.cons_append]
  obtain⟨q,h1,h2⟩:=hl y (by simp) f s p _ hp h' (Il.of (by decide)) (by omega);have h3:=Cv (C5 h');have h4:=Dp h3;rw[Fg h3 (by decide)]at h2;have h5:s.drop (p+y.1.length+1)=Eh ((z::r).map (·.1))++93::x:=C5 (a:= [44]) (C5 h')
  conv=>lhs;unfold Fa
  rw[h1];simp only;rw[h2,h3,if_pos rfl,Vl hd (z::r) (by simp) (fun w hw=>hl w (by simp[hw])) f s x _ (acc++ [y.2]) (by omega) h5 (by omega)]
  congr 1
  . simp
  . simp only[List.map_cons,Eh,List.length_append,List.length_cons];omega
theorem Als {y:List UInt8} {r:List (List UInt8)}: ∃z,Eh (y::r)=y++z:=by
 cases r with
 |nil=>exact⟨[],by simp[Eh]⟩
 |cons u r=>exact⟨44::Eh (u::r),rfl⟩
theorem Tq {t:List UInt8} {v:Val} {d:Int} (h:Ir t v d) {s x:List UInt8} {p:Nat} (hp:p<=s.length) (hs:s.drop p=t++x) (hx:Il x): ∃c,s[Ay s p]? =some c/\Ik c=true:=by
 obtain⟨q,h1,_⟩:=h (4*(s.length - p)+1) s p x hp hs hx (Nat.le_refl _);unfold Ch at h1
 cases hc:s[Ay s p]? with
 |none=>rw[hc]at h1;cases h1
 |some c=>
  rw[hc]at h1;simp only at h1;refine⟨c,rfl, ?_⟩
  cases hb:Ik c with
  |true=>rfl
  |false=>rw[hb,if_pos rfl]at h1;cases h1
theorem Ajl {d:Int} (hd:d<=64) {l:List (List UInt8×Val)} (hl: ∀y ∈ l,Ir y.1 y.2 (d+1)) {g:List UInt8} (hg:Ol g) (hne:l≠ []->g= []):
 Ir (91::(g++Eh (l.map (·.1))++ [93])) (Uc (l.map (·.2))) d:=by
 intro f s p x hp hs hx hf;obtain⟨f,rfl⟩: ∃f',f=f'+1:=⟨f - 1,by omega⟩;have hc:s[p]? =some 91:=Cv hs;have hlt:=Dp hc;obtain⟨f,rfl⟩: ∃f',f=f'+1:=⟨f - 1,by omega⟩;have h1:s.drop (p+1)=g++(Eh (l.map (·.1))++93::x):=by
  refine C5 (a:= [91]) ?_;rw[hs];simp
 rw[F9 hc (by decide) hd (by decide),if_pos rfl];unfold L2
 cases l with
 |nil=>
  have h2:=C5 h1;have h3:s[p+1+g.length]? =some 93:=Cv h2;rw[Hh hg h1,Fg h3 (by decide),if_pos h3];refine⟨_,rfl, ?_⟩;simp only[List.map_nil,Eh,List.append_nil,List.length_cons,List.length_append,List.length_nil]
  congr 1;omega
 |cons y r=>
  obtain rfl:=hne (by simp);rw[List.nil_append]at h1;obtain⟨z,hz⟩:=Als (y:=y.1) (r:=r.map (·.1));have hfirst: ∃c,s[Ay s (p+1)]? =some c/\Ik c=true:=by
   cases r with
   |nil=>
    refine Tq (hl y (by simp)) (p:=p+1) (x:=93::x) (by omega) ?_ (Il.of (by decide));rw[h1];rfl
   |cons w r=>
    refine Tq (hl y (by simp)) (p:=p+1) (x:=44::(Eh ((w::r).map (·.1))++93::x)) (by omega) ?_ (Il.of (by decide));rw[h1];simp only[List.map_cons,Eh,List.append_assoc,List.cons_append]
  obtain⟨c,h3,h4⟩:=hfirst;have hn93: ¬(s[Ay s (p+1)]? =some 93):=by
   rw[h3];intro e;rw[Option.some.inj e]at h4;revert h4;decide
  rw[if_neg hn93];have hit:=Vl hd (y::r) (by simp) hl f s x (p+1) [] (by omega) h1 (by omega);have hpast:Fa f s (Ay s (p+1)) d []=Fa f s (p+1) d []:=by
   cases f with
   |zero=>unfold Fa;rw[Ff]
   |succ f=>unfold Fa;rw[Wz (Ff s (p+1))]
  rw[hpast,hit];refine⟨_,by rw[List.nil_append], ?_⟩;simp only[List.nil_append,List.length_cons,List.length_append,List.length_nil]
  congr 1;omega
structure Mem where
 pre:List UInt8
 mid:List UInt8
 txt:List UInt8
 key:ByteArray
 val:Val
def Mem.text (m:Mem):List UInt8:=m.pre++(Bp m.key++(m.mid++58::m.txt))
def Mem.pair (m:Mem):ByteArray×Val:=(m.key,m.val)
def Mem.good (d:Int) (m:Mem):Prop:=Ol m.pre/\Ol m.mid/\Aw m.key=true/\Ir m.txt m.val d
theorem Adz (a:ByteArray):Bp a=34::(Af (Ca a)++ [34]):=rfl
theorem Th {d:Int} {m:Mem} (hm:m.good (d+1)) {f:Nat} {s x:List UInt8} {p:Nat} {acc:List (ByteArray×Val)} (hp:p<=s.length) (h:s.drop p=m.text++x) (hx:Il x) (hf:4*(s.length - p)+2<=f):
 (Na m.key acc=true->Cc f s p d acc=.bad 8 (p+m.pre.length))/\
 (Na m.key acc=false-> ∃g q,f=g+2/\Ay s q=Ay s (p+m.text.length)/\Cc f s p d acc=(if s[Ay s q]? =some 44 then Cc g s (Ay s q+1) d (acc++ [m.pair])else if s[Ay s q]? =some 125 then .ok (Su (J0 (acc++ [m.pair]))) (Ay s q+1)else .bad 4 (Ay s q))):=by
 obtain⟨g1,g2,hv,hr⟩:=hm;unfold Mem.text at h;rw[List.append_assoc,List.append_assoc,List.append_assoc]at h;have h1:=C5 h;have l1:=Ou h hp;have h2:=C5 h1;have l2:=Ou h1 l1;have h3:=C5 h2;have l3:=Ou h2 l2;have h4:s.drop (p+m.pre.length+(Bp m.key).length+m.mid.length+1)=m.txt++x:=C5 (a:= [58]) h3;have c34:s[p+m.pre.length]? =some 34:=Cv (x:=Af (Ca m.key)++ [34]++(m.mid++([58]++m.txt++x))) (by rw[h1];rfl);have c58:=Cv h3;have lt58:=Dp c58;have e1:Ay s p=p+m.pre.length:=by rw[Hh g1 h,Fg c34 (by decide)]
 have e2:=Z0 hv h1;have e3:Ay s (p+m.pre.length+(Bp m.key).length)=p+m.pre.length+(Bp m.key).length+m.mid.length:=by rw[Hh g2 h2,Fg c58 (by decide)]
 have hql:2<=(Bp m.key).length:=by rw[Adz];simp
 obtain⟨f,rfl⟩: ∃f',f=f'+2:=⟨f - 2,by omega⟩;constructor
 . intro hk
   conv=>lhs;unfold Cc
   rw[e1,e2];simp only;rw[Aah,if_pos hk]
 . intro hk;obtain⟨q,h5,h6⟩:=hr f s _ x (by omega) h4 hx (by omega);refine⟨f,q,rfl, ?_, ?_⟩
   . rw[h6];unfold Mem.text;simp only[List.length_append,List.length_cons]
     congr 1;omega
   . conv=>lhs;unfold Cc
     rw[e1,e2];simp only;rw[Aah,if_neg (by rw[hk];decide),e3,c58,if_pos rfl]
     conv=>lhs;unfold Ie
     rw[h5];rfl
theorem Rr {d:Int}: ∀(l:List Mem),l≠ []->(∀m ∈ l,m.good (d+1))-> ∀(f:Nat) (s x:List UInt8) (p:Nat) (acc:List (ByteArray×Val)),((acc++l.map Mem.pair).map (·.1)).Nodup->p<=s.length->s.drop p=Eh (l.map Mem.text)++125::x->4*(s.length - p)+2<=f->
 Cc f s p d acc=.ok (Su (J0 (acc++l.map Mem.pair))) (p+(Eh (l.map Mem.text)).length+1)
 | [m],_,hl,f,s,x,p,acc,hn,hp,h,hf=>by
   have h':s.drop p=m.text++125::x:=h;have hk:Na m.key acc=false:=by
    cases e:Na m.key acc with
    |false=>rfl
    |true=>
     rw[List.map_append,List.nodup_append]at hn;exact absurd rfl (hn.2.2 m.key (Ve.1 e) m.key (by simp[Mem.pair]))
   obtain⟨g,q,_,h2,h3⟩:=(Th (hl m (by simp)) (acc:=acc) hp h' (Il.of (by decide)) hf).2 hk;have h4:=Cv (C5 h');rw[Fg h4 (by decide)]at h2;rw[h3,h2,h4,if_neg (by decide),if_pos rfl];rfl
 |m::z::r,_,hl,f,s,x,p,acc,hn,hp,h,hf=>by
  have h':s.drop p=m.text++44::(Eh ((z::r).map Mem.text)++125::x):=by
   rw[h];simp only[List.map_cons,Eh,List.append_assoc,List.cons_append]
  have hk:Na m.key acc=false:=by
   cases e:Na m.key acc with
   |false=>rfl
   |true=>
    rw[List.map_append,List.nodup_append]at hn;exact absurd rfl (hn.2.2 m.key (Ve.1 e) m.key (by simp[Mem.pair]))
  obtain⟨g,q,hg,h2,h3⟩:=(Th (hl m (by simp)) (acc:=acc) hp h' (Il.of (by decide)) hf).2 hk;have h4:=Cv (C5 h');have h6:=Dp h4;rw[Fg h4 (by decide)]at h2;have h5:s.drop (p+m.text.length+1)=Eh ((z::r).map Mem.text)++125::x:=C5 (a:= [44]) (C5 h');rw[h3,h2,h4,if_pos rfl,Rr (z::r) (by simp) (fun w hw=>hl w (by simp[hw])) g s x _ (acc++ [m.pair]) (by simpa using hn) (by omega) h5 (by omega)]
  congr 1
  . simp
  . simp only[List.map_cons,Eh,List.length_append,List.length_cons];omega
theorem Aa0 {f:Nat} {s:List UInt8} {p:Nat} {d:Int} {acc:List (ByteArray×Val)}:Cc f s (Ay s p) d acc=Cc f s p d acc:=by
 cases f with
 |zero=>unfold Cc;rw[Ff]
 |succ f=>unfold Cc;rw[Ff]
theorem Amf {d:Int} (hd:d<=64) {f:Nat} {s:List UInt8} {p:Nat} (hc:s[p]? =some 123) (hn: ¬(s[Ay s (p+1)]? =some 125)):Ch (f+2) s p d=Cc f s (p+1) d []:=by
 rw[F9 hc (by decide) hd (by decide),if_neg (by decide),if_pos rfl];unfold P9;rw[if_neg hn,Aa0]
theorem Y4 {d:Int} {m:Mem} (hm:m.good d) {s x:List UInt8} {p:Nat} (h:s.drop p=m.text++x):s[Ay s p]? =some 34:=by
 unfold Mem.text at h;rw[List.append_assoc,List.append_assoc]at h;have h1:=C5 h;have c34:s[p+m.pre.length]? =some 34:=Cv (x:=Af (Ca m.key)++ [34]++(m.mid++58::m.txt++x)) (by rw[h1];rfl);rw[Hh hm.1 h,Fg c34 (by decide),c34]
theorem Amv {d:Int} (hd:d<=64) {l:List Mem} (hl: ∀m ∈ l,m.good (d+1)) (hn:((l.map Mem.pair).map (·.1)).Nodup) {g:List UInt8} (hg:Ol g) (hne:l≠ []->g= []):
 Ir (123::(g++Eh (l.map Mem.text)++ [125])) (Su (J0 (l.map Mem.pair))) d:=by
 intro f s p x hp hs hx hf;have hc:s[p]? =some 123:=Cv hs;have hlt:=Dp hc;obtain⟨f,rfl⟩: ∃f',f=f'+2:=⟨f - 2,by omega⟩;have h1:s.drop (p+1)=g++(Eh (l.map Mem.text)++125::x):=by
  refine C5 (a:= [123]) ?_;rw[hs];simp
 cases l with
 |nil=>
  have h2:=C5 h1;have h3:s[p+1+g.length]? =some 125:=Cv h2;rw[F9 hc (by decide) hd (by decide),if_neg (by decide),if_pos rfl];unfold P9;rw[Hh hg h1,Fg h3 (by decide),if_pos h3];refine⟨_,rfl, ?_⟩;simp only[List.map_nil,Eh,List.append_nil,List.length_cons,List.length_append,List.length_nil]
  congr 1;omega
 |cons y r=>
  obtain rfl:=hne (by simp);rw[List.nil_append]at h1;have hfirst:s[Ay s (p+1)]? =some 34:=by
   cases r with
   |nil=>exact Y4 (hl y (by simp)) (x:=125::x) (by rw[h1];rfl)
   |cons w r=>
    refine Y4 (hl y (by simp)) (x:=44::(Eh ((w::r).map Mem.text)++125::x)) ?_;rw[h1];simp only[List.map_cons,Eh,List.append_assoc,List.cons_append]
  rw[Amf hd hc (by rw[hfirst];decide)];rw[Rr (y::r) (by simp) hl f s x (p+1) [] (by simpa using hn) (by omega) h1 (by omega)];refine⟨_,by rw[List.nil_append], ?_⟩;simp only[List.nil_append,List.length_cons,List.length_append,List.length_nil]
  congr 1;omega
end Go.Proofs.YtmglfdckpjegdaaGreatDoor
