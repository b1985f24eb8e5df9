/- Parts: Values that may be and have the same text are the same, the values. Plain. No condition. -/
import Derived.Test.YtkmcjfkokoidcaaGreatDoorKFa20
namespace Go.Proofs.YtkmcjfkokoidcaaGreatDoor
open Go Go.RowKit
theorem Ac.len6 {w:World} {B:Nat} {v:Val} {cs:List Value} (h:Ac w B v cs):cs.length=6:=by
 obtain⟨k,b,n,t,l,o⟩:=v;simp only[Ac]at h;obtain⟨la,lc,oa,oc,rfl,_⟩:=h;rfl
theorem U3 {w:World} {g off:Nat} {cs cs':List Value} (hl:cs.length=cs'.length) (h: ∀j u,cs[j]? =some u->w.cell? ⟨g,off+j,none⟩=some u) (h': ∀j u,cs'[j]? =some u->w.cell? ⟨g,off+j,none⟩=some u):cs=cs':=by
 refine List.ext_getElem hl fun j h1 h2=> ?_;have e1:=h j _ (List.getElem?_eq_getElem h1);have e2:=h' j _ (List.getElem?_eq_getElem h2);rw[e1]at e2;exact Option.some.inj e2
theorem Ao.inj {w:World} {B B':Nat}: ∀{l l':List Val},(∀v ∈ l,∀cs v',Ac w B v cs->Ac w B' v' cs->v=v')->l.length=l'.length-> ∀{g off},Ao w B l g off->Ao w B' l' g off->l=l'
 | [], [],_,_,_,_,_,_=>rfl
 | [],_::_,_,hl,_,_,_,_=>by simp at hl
 |_::_, [],_,hl,_,_,_,_=>by simp at hl
 |v::r,v'::r',ih,hl,g,off,h,h'=>by
  simp only[Ao]at h h';obtain⟨⟨cs,h1,hc⟩,h2⟩:=h;obtain⟨⟨cs',h1',hc'⟩,h2'⟩:=h';have e:cs=cs':=U3 (by rw[h1.len6,h1'.len6]) hc hc';subst e;rw[ih v (by simp) cs v' h1 h1',Ao.inj (fun x hx=>ih x (by simp[hx])) (by simpa using hl) h2 h2']
theorem Ap.inj {w:World} {B B':Nat}: ∀{l l':List (ByteArray×Val)},(∀m ∈ l,∀cs v',Ac w B m.2 cs->Ac w B' v' cs->m.2=v')->l.length=l'.length-> ∀{g off},Ap w B l g off->Ap w B' l' g off->l=l'
 | [], [],_,_,_,_,_,_=>rfl
 | [],_::_,_,hl,_,_,_,_=>by simp at hl
 |_::_, [],_,hl,_,_,_,_=>by simp at hl
 |(key,v)::r,(key',v')::r',ih,hl,g,off,h,h'=>by
  simp only[Ap,Lv]at h h';obtain⟨⟨h0,cs,h1,hc⟩,h2⟩:=h;obtain⟨⟨h0',cs',h1',hc'⟩,h2'⟩:=h';have e:cs=cs':=U3 (by rw[h1.len6,h1'.len6]) hc hc';subst e;rw[h0]at h0';simp only[Option.some.injEq,Value.string.injEq]at h0';have e1:v=v':=ih (key,v) (by simp) cs v' h1 h1';rw[e1,h0',Ap.inj (fun x hx=>ih x (by simp[hx])) (by simpa using hl) h2 h2']
theorem Ac.inj {w:World} {B B':Nat}: ∀(v:Val) (cs:List Value) (v':Val),Ac w B v cs->Ac w B' v' cs->v=v':=by
 refine Val.ind ?_;intro k b n t l o hl ho cs v' h h';obtain⟨k',b',n',t',l',o'⟩:=v';simp only[Ac]at h h';obtain⟨la,lc,oa,oc,rfl,h1,h2⟩:=h;obtain⟨la',lc',oa',oc',e,h1',h2'⟩:=h';simp only[Ei,List.cons.injEq,Value.int.injEq,Value.bool.injEq,Value.string.injEq,Value.slice.injEq,true_and,and_true]at e;obtain⟨rfl,rfl,rfl,rfl,⟨rfl,el,rfl⟩,⟨rfl,eo,rfl⟩⟩:=e;have e1:l=l':=by
  rcases h1 with rfl|⟨g,off,ea,_,h1⟩
  . exact(List.eq_nil_of_length_eq_zero (by simpa using el.symm)).symm
  . rcases h1' with rfl|⟨g',off',ea',_,h1'⟩
    . exact List.eq_nil_of_length_eq_zero (by simpa using el)
    . rw[ea]at ea'
      cases ea'
      exact Ao.inj hl el h1 h1'
 have e2:o=o':=by
  rcases h2 with rfl|⟨g,off,ea,_,h2⟩
  . exact(List.eq_nil_of_length_eq_zero (by simpa using eo.symm)).symm
  . rcases h2' with rfl|⟨g',off',ea',_,h2'⟩
    . exact List.eq_nil_of_length_eq_zero (by simpa using eo)
    . rw[ea]at ea'
      cases ea'
      exact Ap.inj ho eo h2 h2'
 rw[e1,e2]
theorem Alr {w:World} {B B':Nat} {l l':List A5} {a:Option Addr} {n c:Nat} (h:Ag w B (.row 7 (dO l)) [.slice a n c]) (h':Ag w B' (.row 7 (dO l')) [.slice a n c]):l=l':=by
 have e1:=h.row_len;have e2:=h'.row_len;rw[Av]at e1 e2;obtain⟨a1,c1,e,_,ns,h1,h2⟩:=h;obtain⟨a2,c2,e',_,ns',h1',h2'⟩:=h';simp only[List.cons.injEq,Value.slice.injEq,and_true]at e e';obtain⟨rfl,_,rfl⟩:=e;obtain⟨rfl,_,rfl⟩:=e';have key:l≠ []->l=l':=fun hne=>by
  rcases h2 with h2|⟨g,off,ea,_,hc⟩
  . cases l with
    |nil=>exact absurd rfl hne
    |cons x r=>simp[dO]at h2
  rcases h2' with h2'|⟨g',off',ea',_,hc'⟩
  . cases l' with
    |nil=>exact List.eq_nil_of_length_eq_zero (by simpa using(e1.symm.trans e2))
    |cons x r=>simp[dO]at h2'
  rw[ea]at ea'
  cases ea'
  exact Ap.inj (fun m _ cs v' hv hv'=>Ac.inj m.2 cs v' hv hv') (by omega) (Af.toO (fun m _ cs=>Cg m.2 cs) h1 hc) (Af.toO (fun m _ cs=>Cg m.2 cs) h1' hc')
 by_cases hne:l= []
 . subst hne;exact(List.eq_nil_of_length_eq_zero (by simpa using(e2.symm.trans e1))).symm
 . exact key hne
theorem Alq {w:World} {B B':Nat} {l l':List Nat} {a:Option Addr} {n c:Nat} (h:Ag w B (.row 1 (Bb l)) [.slice a n c]) (h':Ag w B' (.row 1 (Bb l')) [.slice a n c]):l=l':=by
 have e1:=h.row_len;have e2:=h'.row_len;rw[A8]at e1 e2;refine List.ext_getElem (by omega) fun i h1 h2=> ?_;obtain⟨g,off,ea,_,cs,k1,_,k3⟩:=h.at_ (i:=i) (d:=dPt l[i]) (by simp[Bb,h1]);obtain⟨g',off',ea',_,cs',k1',_,k3'⟩:=h'.at_ (i:=i) (d:=dPt l'[i]) (by simp[Bb,h2]);rw[ea]at ea'
 cases ea'
 obtain⟨rfl,_⟩:=k1;obtain⟨rfl,_⟩:=k1';have q1:=k3 0 _ rfl;have q2:=k3' 0 _ rfl;rw[q1]at q2;simpa using q2
theorem A6.inj {w:World} {B B':Nat}: ∀{ks ks':List Nd},(∀k ∈ ks,∀b k',Cd w B k b->Cd w B' k' b->k=k')-> ∀{bs},A6 w B ks bs->A6 w B' ks' bs->ks=ks'
 | [], [],_,_,_,_=>rfl
 | [],k::r,_,bs,h,h'=>by
   simp only[A6]at h h';obtain⟨b,t,e,_⟩:=h';rw[h]at e;cases e
 |k::r, [],_,bs,h,h'=>by
  simp only[A6]at h h';obtain⟨b,t,e,_⟩:=h;rw[h']at e;cases e
 |k::r,k'::r',ih,bs,h,h'=>by
  simp only[A6]at h h';obtain⟨b,t,rfl,h1,h2⟩:=h;obtain⟨b',t',e,h1',h2'⟩:=h'
  cases e
  rw[ih k (by simp) b k' h1 h1',A6.inj (fun x hx=>ih x (by simp[hx])) h2 h2']
theorem Cd.inj {w:World} {B B':Nat}: ∀(n:Nd) (b:Nat) (n':Nd),Cd w B n b->Cd w B' n' b->n=n':=by
 refine Nd.ind ?_ ?_
 . intro es b n' h h'
   cases n' with
   |leaf es'=>
    simp only[Cd]at h h';obtain⟨_,a,c,h1,h2⟩:=h;obtain⟨_,a',c',h1',h2'⟩:=h';have e:=h2.symm.trans h2';simp only[Option.some.injEq,Obj.cells.injEq,Array.mk.injEq,List.cons.injEq,Value.slice.injEq,true_and,and_true]at e;obtain⟨⟨rfl,e1,rfl⟩,_⟩:=e;rw[e1]at h1;rw[Alr h1 h1']
   |inner ks'=>
    simp only[Cd]at h h';obtain⟨_,a,c,h1,h2⟩:=h;obtain⟨_,bs,a',c',h1',h2',_⟩:=h';have e:=h2.symm.trans h2';simp only[Option.some.injEq,Obj.cells.injEq,Array.mk.injEq,List.cons.injEq,Value.int.injEq,true_and,Ms]at e;omega
 . intro ks ih b n' h h'
   cases n' with
   |leaf es'=>
    simp only[Cd]at h h';obtain⟨_,bs,a,c,h1,h2,_⟩:=h;obtain⟨_,a',c',h1',h2'⟩:=h';have e:=h2.symm.trans h2';simp only[Option.some.injEq,Obj.cells.injEq,Array.mk.injEq,List.cons.injEq,Value.int.injEq,true_and,Ms]at e;omega
   |inner ks'=>
    simp only[Cd]at h h';obtain⟨_,bs,a,c,h1,h2,h3⟩:=h;obtain⟨_,bs',a',c',h1',h2',h3'⟩:=h';have e:=h2.symm.trans h2';simp only[Option.some.injEq,Obj.cells.injEq,Array.mk.injEq,List.cons.injEq,Value.slice.injEq,true_and,and_true]at e;obtain⟨⟨rfl,e1,rfl⟩,_⟩:=e;rw[e1]at h1;have eb:=Alq h1 h1';subst eb;rw[A6.inj (fun k hk b k' hb hb'=>ih k hk b k' hb hb') h3 h3']
theorem le_of_lt {a b:ByteArray} (h:Dp b a=true):leB a b=false:=by
 unfold leB;have h1:=Ue h;unfold Dp at h1;rw[h1,Bool.false_or]
 cases e:(a.toList==b.toList)with
 |false=>rfl
 |true=>
  have:a=b:=Gq (by simpa using e);subst this;rw[Ip]at h;cases h
theorem Uf: ∀{l:List (ByteArray×Val)} {last:Option ByteArray} {d:Int},Ay l->(∀m ∈ l,A9 m.1=true/\Au m.2 d=0)->(∀q,last=some q-> ∀m ∈ l,Dp q m.1=true)->Ep l last d=0
 | [],_,_,_,_,_=>by simp[Ep]
 |(k,v)::r,last,d,ha,hm,hq=>by
  obtain⟨h1,h2⟩:=List.pairwise_cons.1 ha;obtain⟨m1,m2⟩:=hm (k,v) (by simp);have hP:Q7 (k,v) last d=0:=by
   simp only[Q7];rw[if_pos m1]
   cases last with
   |none=>exact m2
   |some q=>
    have:=le_of_lt (hq q rfl (k,v) (by simp));simp only at this ⊢;rw[this,if_neg (by decide)];exact m2
  simp only[Ep];rw[if_pos hP];refine Uf h2 (fun m hm'=>hm m (by simp[hm'])) (fun q hq' m hm'=> ?_);obtain rfl:=Option.some.inj hq';exact h1 m hm'
theorem Ago: ∀{l:List Val} {d:Int},(∀v ∈ l,Au v d=0)->C2 l d=0
 | [],_,_=>by simp[C2]
 |v::r,d,h=>by
  simp only[C2];rw[if_pos (h v (by simp))];exact Ago fun x hx=>h x (by simp[hx])
theorem T5 {k:ByteArray} {l:List (ByteArray×Val)}:Lj k l=true ↔ k ∈ l.map (·.1):=by
 unfold Lj;simp[List.any_eq_true]
theorem U6 {l:List (ByteArray×Val)} (h:(l.map (·.1)).Nodup):D8 l []=some (G8 l)/\Ay (G8 l)/\(G8 l).Perm l:=by
 unfold G8
 cases e:D8 l []with
 |none=>exact absurd (by rw[List.append_nil];exact h) (Nc e)
 |some o=>
  obtain⟨h1,h2⟩:=Nf e List.Pairwise.nil;rw[List.append_nil]at h2;exact⟨rfl,h1,h2⟩
theorem Ae8 {l:List (ByteArray×Val)} {k:ByteArray} {v:Val} (h:(l.map (·.1)).Nodup) (hk:Lj k l=false):((l++ [(k,v)]).map (·.1)).Nodup:=by
 rw[List.map_append,List.nodup_append];refine⟨h,by simp,fun a ha b hb=> ?_⟩;simp only[List.map_cons,List.map_nil,List.mem_singleton]at hb;subst hb;intro e;subst e;rw[T5.2 ha]at hk;cases hk
theorem Akz {d:Int} (h:d<=64):Au Nb d=0:=by
 simp only[Nb,Au,List.length_nil];rw[if_neg (by decide+kernel),if_neg (by omega),if_pos (by decide+kernel)];simp[C2,Ep]
theorem Ab6 (b:Bool) {d:Int} (h:d<=64):Au (Ia b) d=0:=by
 simp only[Ia,Au,List.length_nil];rw[if_neg (by cases b<;>decide+kernel),if_neg (by omega),if_pos (by decide+kernel)];simp[C2,Ep]
theorem Amx (n:Int) {d:Int} (h:d<=64):Au (Q5 n) d=0:=by
 simp only[Q5,Au,List.length_nil];rw[if_neg (by simp[Gl,Fl]),if_neg (by omega),if_pos (by decide+kernel)];simp[C2,Ep]
theorem Amy {a:List UInt8} (ha:Lib.validD a=true) {d:Int} (h:d<=64):Au (Ade a) d=0:=by
 simp only[Ade,Au,List.length_nil];rw[if_neg (by simp[Gl]),if_neg (by omega),if_pos (by exact ha)];simp[C2,Ep]
theorem Agp {l:List Val} {d:Int} (h:d<=64) (hl: ∀v ∈ l,Au v (d+1)=0):Au (Sv l) d=0:=by
 simp only[Sv,Au,List.length_nil];rw[if_neg (by simp[Gl,Fl]),if_neg (by omega),if_pos (by decide+kernel),if_pos (Ago hl)];simp[Ep]
theorem Ab8 {o:List (ByteArray×Val)} {d:Int} (h:d<=64) (ha:Ay o) (ho: ∀m ∈ o,A9 m.1=true/\Au m.2 (d+1)=0):Au (Rc o) d=0:=by
 simp only[Rc,Au,List.length_nil];rw[if_neg (by simp[Gl,Fl]),if_neg (by omega),if_pos (by decide+kernel),if_pos (by simp[C2])];exact Uf ha ho (fun q hq=>by cases hq)
def Rd.mayIt (d:Int):Rd Val->Prop
 | .ok v _=>Au v d=0
 | .bad _ _=>True
theorem Amw: ∀(f:Nat),(∀s p d,(Cc f s p d).mayIt d)/\(∀s p d,d<=64->(Ka f s p d).mayIt d)/\(∀s p d,d<=64->(Oh f s p d).mayIt d)/\
 (∀s p d acc,d<=64->(∀v ∈ acc,Au v (d+1)=0)->(D7 f s p d acc).mayIt d)/\
 (∀s p d acc,d<=64->(∀m ∈ acc,A9 m.1=true/\Au m.2 (d+1)=0)->(acc.map (·.1)).Nodup->(By f s p d acc).mayIt d)/\
 (∀s p d acc k,d<=64->(∀m ∈ acc,A9 m.1=true/\Au m.2 (d+1)=0)->(acc.map (·.1)).Nodup->Lj k acc=false->A9 k=true->(Fy f s p d acc k).mayIt d):=by
 intro f
 induction f with
 |zero=>
  refine⟨fun s p d=> ?_,fun s p d _=> ?_,fun s p d _=> ?_,fun s p d acc _ _=> ?_,fun s p d acc _ _ _=> ?_,fun s p d acc k _ _ _ _ _=> ?_⟩
  . unfold Cc;trivial
  . unfold Ka;trivial
  . unfold Oh;trivial
  . unfold D7;trivial
  . unfold By;trivial
  . unfold Fy;trivial
 |succ f ih=>
  obtain⟨iv,il,io,ii,im,ik⟩:=ih;refine⟨fun s p d=> ?_,fun s p d h=> ?_,fun s p d h=> ?_,fun s p d acc h hi=> ?_,fun s p d acc h hi hn=> ?_,fun s p d acc k h hi hn hk hv=> ?_⟩
  . unfold Cc
    cases hc:s[Aq s p]? with
    |none=>trivial
    |some c=>
     simp only
     split
     . trivial
     split
     . trivial
     rename_i hd;have hd':d<=64:=by omega
     split
     . exact il s _ d hd'
     split
     . exact io s _ d hd'
     split
     . cases hu:Eg s (Aq s p)with
       |bad e q=>trivial
       |ok a q=>exact Amy (Qr hu).1 hd'
     split
     . unfold Dh
       split
       . exact Akz hd'
       . trivial
     split
     . unfold Dh
       split
       . exact Ab6 true hd'
       . trivial
     split
     . unfold Dh
       split
       . exact Ab6 false hd'
       . trivial
     . cases hu:Dg s (Aq s p)with
       |bad e q=>trivial
       |ok n q=>exact Amx n hd'
  . unfold Ka
    split
    . exact Agp h (fun v hv=>by cases hv)
    . exact ii s _ d [] h (fun v hv=>by cases hv)
  . unfold Oh
    split
    . exact Ab8 h List.Pairwise.nil (fun v hv=>by cases hv)
    . exact im s _ d [] h (fun v hv=>by cases hv) (by simp)
  . unfold D7;have hv:=iv s p (d+1)
    cases hr:Cc f s p (d+1)with
    |bad e q=>trivial
    |ok v q=>
     rw[hr]at hv;have e2: ∀x ∈ acc++ [v],Au x (d+1)=0:=by
      intro x hx;rcases List.mem_append.1 hx with hx|hx
      . exact hi x hx
      . simp only[List.mem_singleton]at hx;rw[hx];exact hv
     simp only
     split
     . exact ii s _ d _ h e2
     split
     . exact Agp h e2
     . trivial
  . unfold By
    cases hr:Eg s (Aq s p)with
    |bad e q=>trivial
    |ok k q=>
     simp only
     split
     . trivial
     rename_i hk
     split
     . exact ik s _ d acc ⟨k.toArray⟩ h hi hn (by simpa using hk) (Qr hr).1
     . trivial
  . unfold Fy;have hm:=iv s p (d+1)
    cases hr:Cc f s p (d+1)with
    |bad e q=>trivial
    |ok v q=>
     rw[hr]at hm;have e2: ∀x ∈ acc++ [(k,v)],A9 x.1=true/\Au x.2 (d+1)=0:=by
      intro x hx;rcases List.mem_append.1 hx with hx|hx
      . exact hi x hx
      . simp only[List.mem_singleton]at hx;rw[hx];exact⟨hv,hm⟩
     have e3:=Ae8 (v:=v) hn hk;simp only
     split
     . exact im s _ d _ h e2 e3
     split
     . obtain⟨_,s2,s3⟩:=U6 e3;exact Ab8 h s2 (fun m hm=>e2 m (s3.mem_iff.1 hm))
     . trivial
theorem Ai7 {f:Nat} {s:List UInt8} {p q:Nat} {d:Int} {v:Val} (h:Cc f s p d=.ok v q):Au v d=0:=by
 have:=(Amw f).1 s p d;rw[h]at this;exact this
theorem Rg {s:List UInt8} {v:Val} {q:Nat} (h:Fe s=.ok v q):Au v 1=0/\q=s.length/\v.bulk<=6*s.length/\J8 v:=by
 unfold Fe at h
 cases hr:Cc (4*s.length+4) s 0 1 with
 |bad e q=>rw[hr]at h;cases h
 |ok v' q'=>
  rw[hr]at h;simp only at h;have hw:=(It (4*s.length+4)).1 s 0 1 (Nat.zero_le _);have hs:=(Aiu (4*s.length+4)).1 s 0 1 (Nat.zero_le _);rw[hr]at hw hs;have h2:=Fg hw.2
  split at h
  . cases h
  . simp only[Rd.ok.injEq]at h;obtain⟨rfl,rfl⟩:=h;have h3:=hs.1;have h4:=hw.2;exact⟨Ai7 hr,by omega,by omega,hs.2.2⟩
theorem Re {k:Int} {b:Bool} {n:Int} {t:ByteArray} {ln on:Nat} (h:Gl k b n t ln on=false):(k=2\/b=false)/\(k=3\/n=0):=by
 unfold Gl at h;by_cases h1:k=1
 . subst h1;simp at h;exact⟨.inr h.1.1.1.1,.inr h.1.1.1.2⟩
 by_cases h2:k=2
 . subst h2;simp at h;exact⟨.inl rfl,.inr h.1.1.1⟩
 by_cases h3:k=3
 . subst h3;simp at h;exact⟨.inr h.1.1.1,.inl rfl⟩
 by_cases h4:k=4
 . subst h4;simp at h;exact⟨.inr h.1.1.1,.inr h.1.1.2⟩
 by_cases h5:k=5
 . subst h5;simp at h;exact⟨.inr h.1.1.1,.inr h.1.1.2⟩
 by_cases h6:k=6
 . subst h6;simp at h;exact⟨.inr h.1.1.1,.inr h.1.1.2⟩
 simp[h1,h2,h3,h4,h5,h6]at h
def Ag2 (c:UInt8):Prop:=c=44\/c=93\/c=125
def X5:List UInt8->Prop
 | []=>True
 |c::_=>Ag2 c
theorem Ag3: ∀(a b:List UInt8),(∀c ∈ a, ¬Ag2 c)->(∀c ∈ b, ¬Ag2 c)-> ∀{x y:List UInt8},X5 x->X5 y->a++x=b++y->a=b/\x=y
 | [], [],_,_,x,y,_,_,e=>⟨rfl,e⟩
 | [],d::b,_,hb,x,y,hx,_,e=>by
   have e':x=d::(b++y):=e;rw[e']at hx;exact absurd hx (hb d (by simp))
 |c::a, [],ha,_,x,y,_,hy,e=>by
  have e':c::(a++x)=y:=e;rw[<-e']at hy;exact absurd hy (ha c (by simp))
 |c::a,d::b,ha,hb,x,y,hx,hy,e=>by
  obtain⟨h1,h2⟩:=List.cons.inj e;obtain⟨h3,h4⟩:=Ag3 a b (fun z hz=>ha z (by simp[hz])) (fun z hz=>hb z (by simp[hz])) hx hy h2;exact⟨by rw[h1,h3],h4⟩
theorem L7 (u:Nat): ∀c ∈ Fi u,48<=c.toNat/\c.toNat<=57:=by
 induction u using Nat.strongRecOn with
 |_ u ih=>
  intro c hc;by_cases h:u=0
  . subst h;rw[Il]at hc
    cases hc
  . rw[Lh h]at hc;rcases List.mem_append.1 hc with hc|hc
    . exact ih (u / 10) (by omega) c hc
    . simp only[List.mem_singleton]at hc;subst hc;have: ∀d:Fin 10,48<=(dgt d.val).toNat/\(dgt d.val).toNat<=57:=by decide
      exact this ⟨u % 10,by omega⟩
def Aib (l:List UInt8):Nat:=l.foldl (fun a c=>a*10+(c.toNat - 48)) 0
theorem Rb (u:Nat):Aib (Fi u)=u:=by
 induction u using Nat.strongRecOn with
 |_ u ih=>
  by_cases h:u=0
  . subst h;rw[Il];rfl
  . rw[Lh h];unfold Aib;rw[List.foldl_append];have:=ih (u / 10) (by omega);unfold Aib at this;rw[this];have hd: ∀d:Fin 10,(dgt d.val).toNat - 48=d.val:=by decide
    have:=hd ⟨u % 10,by omega⟩;simp only[List.foldl_cons,List.foldl_nil];simp only at this;omega
def Amz:List UInt8->Int
 | []=>0
 |c::r=>if c=45 then -(Aib r:Int)else Aib (c::r)
theorem Xk (n:Int):Amz (Lib.itoa n)=n:=by
 by_cases h:n<0
 . have e:Lib.itoa n=45::Fi n.natAbs:=by rw[Lib.itoa,if_pos h,Gy _ (by omega)]
   rw[e];simp only[Amz];rw[if_pos trivial,Rb];omega
 . by_cases h0:n=0
   . subst h0;have e:Lib.itoa 0= [48]:=by
      rw[Lib.itoa,if_neg (by omega)];exact Lib.decDigits_one (i:=0) (by omega)
     rw[e];rfl
   . have e:Lib.itoa n=Fi n.toNat:=by rw[Lib.itoa,if_neg h,Gy _ (by omega)]
     rw[e];have hr:=L7 n.toNat;have hn:=Rb n.toNat
     cases hd:Fi n.toNat with
     |nil=>rw[hd]at hn;unfold Amz;have:Aib []=0:=rfl;omega
     |cons c r=>
      rw[hd]at hr hn;simp only[Amz];have hc:=hr c (by simp);have hc45:c≠45:=by
       intro e;subst e;have:(45:UInt8).toNat=45:=rfl;omega
      rw[if_neg hc45,hn];omega
theorem Akn {n m:Int} (h:Lib.itoa n=Lib.itoa m):n=m:=by rw[<-Xk n,h,Xk]
theorem Md (n:Int): ∀c ∈ Lib.itoa n,c.toNat=45\/(48<=c.toNat/\c.toNat<=57):=by
 intro c hc;by_cases h:n<0
 . have e:Lib.itoa n=45::Fi n.natAbs:=by rw[Lib.itoa,if_pos h,Gy _ (by omega)]
   rw[e]at hc;rcases List.mem_cons.1 hc with rfl|hc
   . exact .inl rfl
   . exact .inr (L7 _ c hc)
 . by_cases h0:n=0
   . subst h0;have e:Lib.itoa 0= [48]:=by
      rw[Lib.itoa,if_neg (by omega)];exact Lib.decDigits_one (i:=0) (by omega)
     rw[e]at hc;simp only[List.mem_singleton]at hc;subst hc;exact .inr (by decide)
   . have e:Lib.itoa n=Fi n.toNat:=by rw[Lib.itoa,if_neg h,Gy _ (by omega)]
     rw[e]at hc;exact .inr (L7 _ c hc)
theorem Acg {c:UInt8} (h:c.toNat=45\/(48<=c.toNat/\c.toNat<=57)): ¬Ag2 c:=by
 intro hs;have e1:(44:UInt8).toNat=44:=rfl;have e2:(93:UInt8).toNat=93:=rfl;have e3:(125:UInt8).toNat=125:=rfl;rcases hs with rfl|rfl|rfl<;>omega
def L0 (k:Int) (c:UInt8):Prop:=
 (k=1/\c.toNat=110)\/(k=2/\(c.toNat=116\/c.toNat=102))\/(k=3/\(c.toNat=45\/(48<=c.toNat/\c.toNat<=57)))\/(k=4/\c.toNat=34)\/(k=5/\c.toNat=91)\/(k=6/\c.toNat=123)
theorem Ad0 {k:Int} (b:Bool) (n:Int) (t:ByteArray) (l:List Val) (o:List (ByteArray×Val)) (hk:k=1\/k=2\/k=3\/k=4\/k=5\/k=6): ∃c y,Am (.mk k b n t l o)=c::y/\L0 k c:=by
 unfold L0;rcases hk with rfl|rfl|rfl|rfl|rfl|rfl
 . exact⟨110, [117,108,108],by simp[Am],.inl ⟨rfl,rfl⟩⟩
 . cases b
   . exact⟨102, [97,108,115,101],by simp only[Am];rfl,.inr (.inl ⟨rfl,.inr rfl⟩)⟩
   . exact⟨116, [114,117,101],by simp only[Am];rfl,.inr (.inl ⟨rfl,.inl rfl⟩)⟩
 . have e:Am (.mk 3 b n t l o)=Lib.itoa n:=by simp[Am]
   rw[e]
   cases hi:Lib.itoa n with
   |nil=>exact absurd hi (Zd n)
   |cons c y=>
    have:=Md n c (by rw[hi];simp);exact⟨c,y,rfl,.inr (.inr (.inl ⟨rfl,this⟩))⟩
 . exact⟨34,_,by simp only[Am];rfl,.inr (.inr (.inr (.inl ⟨rfl,rfl⟩)))⟩
 . exact⟨91,_,by simp only[Am];rfl,.inr (.inr (.inr (.inr (.inl ⟨rfl,rfl⟩))))⟩
 . exact⟨123,_,by simp only[Am];rfl,.inr (.inr (.inr (.inr (.inr ⟨rfl,rfl⟩))))⟩
theorem Ad1 {k:Int} {c:UInt8} (h:L0 k c):c≠93/\c≠125:=by
 unfold L0 at h;have e2:(93:UInt8).toNat=93:=rfl;have e3:(125:UInt8).toNat=125:=rfl;constructor<;>(rintro rfl;omega)
theorem Aay {k k':Int} {c:UInt8} (h:L0 k c) (h':L0 k' c):k=k':=by
 unfold L0 at h h';omega
theorem Ug {k:Int} {b:Bool} {n:Int} {t:ByteArray} {l:List Val} {o:List (ByteArray×Val)} {d:Int} (h:Au (.mk k b n t l o) d=0):k=1\/k=2\/k=3\/k=4\/k=5\/k=6:=(Fa (Em h).1).1
theorem Sh (v:Val) {d:Int} (h:Au v d=0): ∃c y,Am v=c::y/\c≠93/\c≠125:=by
 obtain⟨k,b,n,t,l,o⟩:=v;obtain⟨c,y,e,hc⟩:=Ad0 b n t l o (Ug h);exact⟨c,y,e,Ad1 hc⟩
def Anp (a:Val):Prop:= ∀(b:Val) (d d':Int) (x y:List UInt8),Au a d=0->Au b d'=0->X5 x->X5 y->Am a++x=Am b++y->a=b/\x=y
theorem Ya (l:List Val) (x:List UInt8):X5 (Bq l false++93::x):=by
 cases l with
 |nil=>exact .inr (.inl rfl)
 |cons v r=>simp only[Bq];exact .inl rfl
theorem U7 (l:List (ByteArray×Val)) (x:List UInt8):X5 (Bs l false++125::x):=by
 cases l with
 |nil=>exact .inr (.inr rfl)
 |cons v r=>simp only[Bs];exact .inl rfl
theorem Aa8: ∀(l l':List Val) (f:Bool),(∀v ∈ l,Anp v)-> ∀{d d':Int} {x y:List UInt8},C2 l d=0->C2 l' d'=0->Bq l f++93::x=Bq l' f++93::y->l=l'/\x=y
 | [], [],f,_,d,d',x,y,_,_,e=>⟨rfl,by simpa[Bq]using e⟩
 | [],v::r,f,_,d,d',x,y,_,hm',e=>by
   obtain⟨c,z,hc,h1,_⟩:=Sh v (G1 hm' v (by simp))
   exfalso
   cases f
   . simp[Bq]at e
   . simp[Bq,hc]at e;exact h1 e.1.symm
 |v::r, [],f,_,d,d',x,y,hm,_,e=>by
  obtain⟨c,z,hc,h1,_⟩:=Sh v (G1 hm v (by simp))
  exfalso
  cases f
  . simp[Bq]at e
  . simp[Bq,hc]at e;exact h1 e.1
 |v::r,v'::r',f,h,d,d',x,y,hm,hm',e=>by
  have e':Am v++(Bq r false++93::x)=Am v'++(Bq r' false++93::y):=by
   cases f
   . simp only[Bq]at e;have:=(List.cons.inj (show(44::((Am v++Bq r false)++93::x):List UInt8)=44::((Am v'++Bq r' false)++93::y)from e)).2
     rwa [List.append_assoc,List.append_assoc]at this
   . simp only[Bq]at e;have:(Am v++Bq r false)++93::x=(Am v'++Bq r' false)++93::y:=e
     rwa [List.append_assoc,List.append_assoc]at this
  obtain⟨h1,h2⟩:=h v (by simp) v' d d' _ _ (G1 hm v (by simp)) (G1 hm' v' (by simp)) (Ya _ _) (Ya _ _) e';have hmr:C2 r d=0:=by
   simp only[C2]at hm
   rwa [if_pos (G1 (l:=v::r) (by simp only[C2];exact hm) v (by simp))]at hm
  have hmr':C2 r' d'=0:=by
   simp only[C2]at hm'
   rwa [if_pos (G1 (l:=v'::r') (by simp only[C2];exact hm') v' (by simp))]at hm'
  obtain⟨h3,h4⟩:=Aa8 r r' false (fun u hu=>h u (by simp[hu])) hmr hmr' h2;exact⟨by rw[h1,h3],h4⟩
theorem Af9: ∀(l l':List (ByteArray×Val)) (f:Bool),(∀m ∈ l,Anp m.2)-> ∀{d d':Int} {x y:List UInt8},(∀m ∈ l,A9 m.1=true/\Au m.2 d=0)->(∀m ∈ l',A9 m.1=true/\Au m.2 d'=0)->Bs l f++125::x=Bs l' f++125::y->l=l'/\x=y
 | [], [],f,_,d,d',x,y,_,_,e=>⟨rfl,by simpa[Bs]using e⟩
 | [],(k,v)::r,f,_,d,d',x,y,_,_,e=>by
   exfalso
   cases f<;>simp[Bs,Lq,Bl]at e
 |(k,v)::r, [],f,_,d,d',x,y,_,_,e=>by
  exfalso
  cases f<;>simp[Bs,Lq,Bl]at e
 |(k,v)::r,(k',v')::r',f,h,d,d',x,y,hm,hm',e=>by
  have e':Bl k++(58::(Am v++(Bs r false++125::x)))=Bl k'++(58::(Am v'++(Bs r' false++125::y))):=by
   cases f
   . simp only[Bs,Lq]at e;have:=(List.cons.inj (show(44::(((Bl k++58::Am v)++Bs r false)++125::x):List UInt8)=44::(((Bl k'++58::Am v')++Bs r' false)++125::y)from e)).2;simpa[List.append_assoc]using this
   . simp only[Bs,Lq]at e;have:((Bl k++58::Am v)++Bs r false)++125::x=((Bl k'++58::Am v')++Bs r' false)++125::y:=e;simpa[List.append_assoc]using this
  have m1:=hm (k,v) (by simp);have m2:=hm' (k',v') (by simp);simp only at m1 m2;obtain⟨h1,h2⟩:=Xw m1.1 m2.1 e';obtain⟨h3,h4⟩:=h (k,v) (by simp) v' d d' _ _ m1.2 m2.2 (U7 _ _) (U7 _ _) (List.cons.inj h2).2;simp only at h3;obtain⟨h5,h6⟩:=Af9 r r' false (fun u hu=>h u (by simp[hu])) (fun u hu=>hm u (by simp[hu])) (fun u hu=>hm' u (by simp[hu])) h4;exact⟨by rw[h1,h3,h5],h6⟩
theorem Apd: ∀a,Anp a:=by
 refine Val.ind ?_;intro k b n t l o hl ho v d d' x y hm hm' hx hy e;obtain⟨k',b',n',t',l',o'⟩:=v;obtain⟨hodd,_,hvt,hmL,hmO⟩:=Em hm;obtain⟨hodd',_,hvt',hmL',hmO'⟩:=Em hm';obtain⟨c,z,hc,hb⟩:=Ad0 b n t l o (Ug hm);obtain⟨c',z',hc',hb'⟩:=Ad0 b' n' t' l' o' (Ug hm');have hkk:k=k':=by
  rw[hc,hc']at e;have:c=c':=(List.cons.inj e).1;subst this;exact Aay hb hb'
 subst hkk;obtain⟨hk,p1,p2,p3⟩:=Fa hodd;obtain⟨_,q1,q2,q3⟩:=Fa hodd';obtain⟨p4,p5⟩:=Re hodd;obtain⟨q4,q5⟩:=Re hodd';have nl: ∀{α:Type} {l:List α},l.length=0->l= []:=fun h=>List.length_eq_zero_iff.1 h;clear hc hc' hb hb';rcases hk with rfl|rfl|rfl|rfl|rfl|rfl
 . have e1:Am (.mk 1 b n t l o)=Am (.mk 1 b' n' t' l' o'):=by simp[Am]
   rw[e1]at e;refine⟨?_,List.append_cancel_left e⟩;rw[p4.resolve_left (by decide),q4.resolve_left (by decide),p5.resolve_left (by decide),q5.resolve_left (by decide),p1.resolve_left (by decide),q1.resolve_left (by decide),nl (p2.resolve_left (by decide)),nl (q2.resolve_left (by decide)),nl (p3.resolve_left (by decide)),nl (q3.resolve_left (by decide))]
 . have e1:Am (.mk 2 b n t l o)=Lib.formatBool b:=by simp[Am]
   have e2:Am (.mk 2 b' n' t' l' o')=Lib.formatBool b':=by simp[Am]
   rw[e1,e2]at e;have hbb:b=b':=by
    cases b<;>cases b'<;>first|rfl|(exfalso;have:=(List.cons.inj e).1;revert this;decide)
   subst hbb;refine⟨?_,List.append_cancel_left e⟩;rw[p5.resolve_left (by decide),q5.resolve_left (by decide),p1.resolve_left (by decide),q1.resolve_left (by decide),nl (p2.resolve_left (by decide)),nl (q2.resolve_left (by decide)),nl (p3.resolve_left (by decide)),nl (q3.resolve_left (by decide))]
 . have e1:Am (.mk 3 b n t l o)=Lib.itoa n:=by simp[Am]
   have e2:Am (.mk 3 b' n' t' l' o')=Lib.itoa n':=by simp[Am]
   rw[e1,e2]at e;obtain⟨h1,h2⟩:=Ag3 _ _ (fun c hc=>Acg (Md n c hc)) (fun c hc=>Acg (Md n' c hc)) hx hy e;have hnn:=Akn h1;subst hnn;refine⟨?_,h2⟩;rw[p4.resolve_left (by decide),q4.resolve_left (by decide),p1.resolve_left (by decide),q1.resolve_left (by decide),nl (p2.resolve_left (by decide)),nl (q2.resolve_left (by decide)),nl (p3.resolve_left (by decide)),nl (q3.resolve_left (by decide))]
 . have e1:Am (.mk 4 b n t l o)=Bl t:=by simp[Am]
   have e2:Am (.mk 4 b' n' t' l' o')=Bl t':=by simp[Am]
   rw[e1,e2]at e;obtain⟨h1,h2⟩:=Xw hvt hvt' e;subst h1;refine⟨?_,h2⟩;rw[p4.resolve_left (by decide),q4.resolve_left (by decide),p5.resolve_left (by decide),q5.resolve_left (by decide),nl (p2.resolve_left (by decide)),nl (q2.resolve_left (by decide)),nl (p3.resolve_left (by decide)),nl (q3.resolve_left (by decide))]
 . have e1:Am (.mk 5 b n t l o)=91::(Bq l true++ [93]):=by simp[Am]
   have e2:Am (.mk 5 b' n' t' l' o')=91::(Bq l' true++ [93]):=by simp[Am]
   rw[e1,e2]at e;have e3:=(List.cons.inj (show(91::((Bq l true++ [93])++x):List UInt8)=91::((Bq l' true++ [93])++y)from e)).2;rw[List.append_assoc,List.append_assoc]at e3;obtain⟨h1,h2⟩:=Aa8 l l' true hl hmL hmL' e3;subst h1;refine⟨?_,h2⟩;rw[p4.resolve_left (by decide),q4.resolve_left (by decide),p5.resolve_left (by decide),q5.resolve_left (by decide),p1.resolve_left (by decide),q1.resolve_left (by decide),nl (p3.resolve_left (by decide)),nl (q3.resolve_left (by decide))]
 . have e1:Am (.mk 6 b n t l o)=123::(Bs o true++ [125]):=by simp[Am]
   have e2:Am (.mk 6 b' n' t' l' o')=123::(Bs o' true++ [125]):=by simp[Am]
   rw[e1,e2]at e;have e3:=(List.cons.inj (show(123::((Bs o true++ [125])++x):List UInt8)=123::((Bs o' true++ [125])++y)from e)).2;rw[List.append_assoc,List.append_assoc]at e3;obtain⟨h1,h2⟩:=Af9 o o' true ho (Kb hmO) (Kb hmO') e3;subst h1;refine⟨?_,h2⟩;rw[p4.resolve_left (by decide),q4.resolve_left (by decide),p5.resolve_left (by decide),q5.resolve_left (by decide),p1.resolve_left (by decide),q1.resolve_left (by decide),nl (p2.resolve_left (by decide)),nl (q2.resolve_left (by decide))]
theorem Aly {a b:Val} {d d':Int} (ha:Au a d=0) (hb:Au b d'=0) (e:Am a=Am b):a=b:=by
 refine(Apd a b d d' [] [] ha hb trivial trivial ?_).1;rw[List.append_nil,List.append_nil];exact e
end Go.Proofs.YtkmcjfkokoidcaaGreatDoor
