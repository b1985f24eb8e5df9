/- Parts: Pointers to nodes, whether they are the same. No condition. -/
import Derived.LaidEqlPtr
import Derived.Test.YtnkmhaachfgaoaaGreatDoorKPq19
namespace Go.Proofs.YtnkmhaachfgaoaaGreatDoor
open Go.RowKit
inductive Mut where
 |mk (k:Int) (key dst:ByteArray) (n:Int) (had:Bool) (was:Val) (has:Bool) (v:Val) (l:List Mut)
theorem Mut.ind {p:Mut->Prop} (h: ∀k key dst n had was has v l,(∀m ∈ l,p m)->p (.mk k key dst n had was has v l)): ∀m,p m:=by
 intro m;refine Mut.rec (motive_1:=p) (motive_2:=fun l=> ∀m ∈ l,p m) ?_ ?_ ?_ m
 . intro k key dst n had was has v l hl;exact h _ _ _ _ _ _ _ _ _ hl
 . intro m hm
   cases hm
 . intro m r hm hr x hx;rcases List.mem_cons.1 hx with rfl|hx
   . exact hm
   . exact hr x hx
mutual
def dM:Mut->D
 | .mk k key dst n had was has v l=> .agg [.leaf (.int .i64 k),.leaf (.string key),.leaf (.string dst),.leaf (.int .i64 n),.leaf (.bool had),dV was,.leaf (.bool has),dV v,.row 19 (dMs l)]
def dMs:List Mut->List D
 | []=> []
 |m::r=>dM m::dMs r
end
mutual
def Ai2:Mut->Nat
 | .mk _ key dst _ _ was _ v l=>8+key.size+dst.size+was.bulk+v.bulk+Aee l
def Aee:List Mut->Nat
 | []=>0
 |m::r=>Ai2 m+Aee r
end
mutual
def inM:Mut->Prop
 | .mk _ _ _ n _ was _ v l=>(-9223372036854775808<=n/\n<=9223372036854775807)/\M4 was/\M4 v/\Ai6 l
def Ai6:List Mut->Prop
 | []=>True
 |m::r=>inM m/\Ai6 r
end
mutual
def Ajo:Mut->Nat
 | .mk _ _ _ _ _ _ _ _ l=>1+Agd l
def Agd:List Mut->Nat
 | []=>0
 |m::r=>Ajo m+Agd r
end
def Ai0 (k:Int) (dst:ByteArray) (n:Int) (had wasZ has valZ:Bool) (ln:Nat):Bool:=
 decide (1<=k)&&decide (k<=7)&&(decide (k=6)||dst.toList.isEmpty)&&(decide (k=3)||decide (n=0))&&(decide (k=4)||decide (k=7)|| !had)&&(decide (k=4)|| !has)&&(had||wasZ)&&(decide (k=1)||decide (k=5)||(decide (k=4)&&has)||valZ)&&(decide (k=7)||decide (ln=0))
def Agb (s:ByteArray):Bool:=decide (s.size<=64)&&A4 s
def Ail (k:Int) (key dst:ByteArray) (had:Bool):Bool:=if k=6 then Agb key&&Agb dst else if k=7/\key.toList.isEmpty=true then !had else Iv key
mutual
def Ajh:Mut->Int->Int
 | .mk k key dst n had was has v l,d=>
   if Ai0 k dst n had (P3 was) has (P3 v) l.length=false then 9 else if 6<d then 5 else if Ail k key dst had=false then 8
   else if had=true/\C6 was≠0 then C6 was else if(has||decide (k=1)||decide (k=5))=true/\C6 v≠0 then C6 v else Ahy l (d+1)
def Ahy:List Mut->Int->Int
 | [],_=>0
 |m::r,d=>if Ajh m d=0 then Ahy r d else Ajh m d
end
structure Num where
 id:Int
 m:Mut
abbrev Ya:ByteArray:=⟨#[]⟩
abbrev Ei:ByteArray:=⟨#[107,101,121]⟩
abbrev Ky:ByteArray:=⟨#[111,112]⟩
abbrev Jt:ByteArray:=⟨#[118,97,108,117,101]⟩
abbrev Ku:ByteArray:=⟨#[112,117,116]⟩
abbrev Lk:ByteArray:=⟨#[100,101,108]⟩
abbrev G3:ByteArray:=⟨#[99,108,101,97,114]⟩
def tv (s:ByteArray):Val:=.mk 4 false 0 s [] []
def iv (n:Int):Val:=.mk 3 false n Ya [] []
def lv (l:List Val):Val:=.mk 5 false 0 Ya l []
def ov (o:List (ByteArray×Val)):Val:=.mk 6 false 0 Ya [] o
def P8 (p:POp):Val:=ov (if p.k=1 then [(Ei,tv p.key),(Ky,tv Ku),(Jt,p.v)]else if p.k=2 then [(Ei,tv p.key),(Ky,tv Lk)]else [(Ky,tv G3)])
def Ja (l:List POp):Val:=lv (l.map P8)
theorem Rp:A4 Ya=true:=by decide
theorem Ait (s:ByteArray):Fg 4 false 0 s 0 0=false:=by simp[Fg]
theorem Air (n:Nat):Fg 5 false 0 Ya n 0=false:=by simp[Fg,Lib.toList_data]
theorem Ais (n:Nat):Fg 6 false 0 Ya 0 n=false:=by simp[Fg,Lib.toList_data]
theorem Aam {k:Int} {b:Bool} {n:Int} {t:ByteArray} {l:List Val} {o:List (ByteArray×Val)} {d:Int} (h1:Fg k b n t l.length o.length=false) (h2:d<=64) (h3:A4 t=true) (h4:Dd l (d+1)=0) (h5:Dx o none (d+1)=0):Bb (.mk k b n t l o) d=0:=by
 simp only[Bb];rw[if_neg (by rw[h1];simp),if_neg (by omega),if_pos h3,if_pos h4];exact h5
theorem Rg {s:ByteArray} {d:Int} (h:A4 s=true) (hd:d<=64):Bb (tv s) d=0:=Aam (Ait s) hd h (by simp[Dd]) (by simp[Dx])
theorem Aio {l:List Val} {d:Int} (hd:d<=64) (h:Dd l (d+1)=0):Bb (lv l) d=0:=Aam (Air _) hd Rp h (by simp[Dx])
theorem Aip {o:List (ByteArray×Val)} {d:Int} (hd:d<=64) (h:Dx o none (d+1)=0):Bb (ov o) d=0:=Aam (Ais _) hd Rp (by simp[Dd]) h
theorem Ic {key:ByteArray} {v:Val} {r:List (ByteArray×Val)} {d:Int} (hk:A4 key=true) (hv:Bb v d=0) {last:Option ByteArray} (hl: ∀q,last=some q->leB key q=false) (hr:Dx r (some key) d=0):Dx ((key,v)::r) last d=0:=by
 have h1:Rf (key,v) last d=0:=by
  simp only[Rf];rw[if_pos hk]
  cases last with
  |none=>exact hv
  |some q=>
   simp only;rw[if_neg (by rw[hl q rfl];simp)];exact hv
 simp only[Dx];rw[if_pos h1];exact hr
def okQ (p:POp):Prop:=(p.k=1/\Iv p.key=true/\C6 p.v=0)\/(p.k=2/\Iv p.key=true)\/p.k=3
theorem Il: ∀{l:List POp} {prev:Option POp},Aq prev l=0-> ∀p ∈ l,okQ p
 |p::r,prev,h,x,hx=>by
  simp only[Aq]at h;by_cases h1:(Cq p||prev.any fun q=> !Di q p)=true
  . rw[if_pos h1]at h;cases h
  rw[if_neg h1]at h;by_cases h3:p.k=3
  . rw[if_pos h3]at h;rcases List.mem_cons.1 hx with rfl|hx
    . exact .inr (.inr h3)
    . exact Il h x hx
  rw[if_neg h3]at h;by_cases hk:Iv p.key=false
  . rw[if_pos hk]at h;cases h
  rw[if_neg hk]at h;have hk':Iv p.key=true:=by simpa using hk
  by_cases h2:p.k=2
  . rw[if_pos h2]at h;rcases List.mem_cons.1 hx with rfl|hx
    . exact .inr (.inl ⟨h2,hk'⟩)
    . exact Il h x hx
  rw[if_neg h2]at h;by_cases hf:C6 p.v=0
  . rw[if_pos hf]at h;rcases List.mem_cons.1 hx with rfl|hx
    . refine .inl ⟨?_,hk',hf⟩;have h1':Cq x=false:=by
       cases e:Cq x with
       |false=>rfl
       |true=>rw[e]at h1;simp at h1
      unfold Cq at h1';by_cases h11:x.k=1
      . exact h11
      . rw[if_neg h11,if_neg h2,if_neg h3]at h1';cases h1'
    . exact Il h x hx
  . rw[if_neg hf]at h;exact absurd h hf
theorem Ra {k:ByteArray} (h:Iv k=true):A4 k=true:=by
 unfold Iv at h;simp only[Bool.and_eq_true]at h;exact h.2.2
theorem My {v:Val} (h:C6 v=0):Bb v 1=0/\Dy v<=16/\(Cg v).length<=1024:=by
 unfold C6 at h;by_cases h1:Bb v 1=0
 . rw[if_pos h1]at h;by_cases h2:16<Dy v
   . rw[if_pos h2]at h;cases h
   rw[if_neg h2]at h;by_cases h3:1024<(Cg v).length
   . rw[if_pos h3]at h;cases h
   exact⟨h1,by omega,by omega⟩
 . rw[if_neg h1]at h;exact absurd h h1
theorem Afo {p:POp} {d:Int} (h:okQ p) (hd:d<=40):Bb (P8 p) d=0:=by
 have v1:A4 Ei=true:=by decide
 have v2:A4 Ky=true:=by decide
 have v3:A4 Jt=true:=by decide
 have w1:A4 Ku=true:=by decide
 have w2:A4 Lk=true:=by decide
 have w3:A4 G3=true:=by decide
 have l1:leB Ky Ei=false:=by decide+kernel
 have l2:leB Jt Ky=false:=by decide+kernel
 unfold P8;refine Aip (by omega) ?_;rcases h with⟨h,hk,hf⟩|⟨h,hk⟩|h
 . rw[if_pos h];obtain⟨f1,f2,_⟩:=My hf;exact Ic v1 (Rg (Ra hk) (by omega)) (fun _ e=>by cases e) (Ic v2 (Rg w1 (by omega)) (fun q e=>by cases e;exact l1) (Ic v3 (X5 p.v _ 1 f1 (by omega)) (fun q e=>by cases e;exact l2) (by simp[Dx])))
 . rw[if_neg (by omega),if_pos h];exact Ic v1 (Rg (Ra hk) (by omega)) (fun _ e=>by cases e) (Ic v2 (Rg w2 (by omega)) (fun q e=>by cases e;exact l1) (by simp[Dx]))
 . rw[if_neg (by omega),if_neg (by omega)];exact Ic v2 (Rg w3 (by omega)) (fun _ e=>by cases e) (by simp[Dx])
theorem Afn {l:List Val} {d:Int} (h: ∀v ∈ l,Bb v d=0):Dd l d=0:=by
 induction l with
 |nil=>simp[Dd]
 |cons v r ih=>
  simp only[Dd];rw[if_pos (h v (by simp))];exact ih fun x hx=>h x (by simp[hx])
theorem Ac3 {l:List POp} {d:Int} (h: ∀p ∈ l,okQ p) (hd:d<=39):Bb (Ja l) d=0:=by
 refine Aio (by omega) (Afn fun v hv=> ?_);obtain⟨p,hp,rfl⟩:=List.mem_map.1 hv;exact Afo (h p hp) (by omega)
theorem Ag3 {p:POp} (h:M4 p.v):M4 (P8 p):=by
 unfold P8 ov;simp only[M4];refine⟨by omega,by simp[U0], ?_⟩;have ht: ∀s,M4 (tv s):=fun s=>by simp only[tv,M4,U0,J2];exact⟨by omega,trivial,trivial⟩
 by_cases h1:p.k=1
 . rw[if_pos h1];exact⟨ht p.key,ht Ku,h,trivial⟩
 . rw[if_neg h1];by_cases h2:p.k=2
   . rw[if_pos h2];exact⟨ht p.key,ht Lk,trivial⟩
   . rw[if_neg h2];exact⟨ht G3,trivial⟩
theorem Ae8 {l:List POp} (h:inQ l):M4 (Ja l):=by
 unfold Ja lv;simp only[M4];refine⟨by omega, ?_,by simp[J2]⟩
 induction l with
 |nil=>simp[U0]
 |cons p r ih=>
  simp only[List.map_cons,U0];exact⟨Ag3 (h p (by simp)),ih fun x hx=>h x (by simp[hx])⟩
theorem Ack (p:POp):(P8 p).bulk<=60+p.key.size+p.v.bulk:=by
 have e1:(⟨#[]⟩:ByteArray).size=0:=rfl;have e2:Ei.size=3:=rfl;have e3:Ky.size=2:=rfl;have e4:Jt.size=5:=rfl;have e5:Ku.size=3:=rfl;have e6:Lk.size=3:=rfl;have e7:G3.size=5:=rfl;unfold P8 ov
 split
 . simp only[Val.bulk,Bc,Ac,Dg,tv,e1,e2,e3,e4,e5];omega
 . split
   . simp only[Val.bulk,Bc,Ac,Dg,tv,e1,e2,e3,e6];omega
   . simp only[Val.bulk,Bc,Ac,Dg,tv,e1,e3,e7];omega
theorem Zt (l:List POp):(Ja l).bulk<=6+60*l.length+Bo l:=by
 have e1:(⟨#[]⟩:ByteArray).size=0:=rfl;have h:Bc (l.map P8)<=60*l.length+Bo l:=by
  induction l with
  |nil=>simp[Bc]
  |cons p r ih=>
   have:=Ack p;simp only[List.map_cons,Bc,Bo,List.length_cons];omega
 unfold Ja lv;simp only[Val.bulk,Ac,e1];omega
abbrev Ai9:ByteArray:=⟨#[97,114,103,115]⟩
abbrev Ajb:ByteArray:=⟨#[110,97,109,101]⟩
abbrev kBy:ByteArray:=⟨#[98,121]⟩
abbrev kIs:ByteArray:=⟨#[105,115]⟩
abbrev Aj6:ByteArray:=⟨#[119,97,115]⟩
abbrev Aja:ByteArray:=⟨#[102,114,111,109]⟩
abbrev kTo:ByteArray:=⟨#[116,111]⟩
abbrev kDo:ByteArray:=⟨#[100,111]⟩
abbrev kIf:ByteArray:=⟨#[105,102]⟩
abbrev Akd:ByteArray:=⟨#[112,117,116]⟩
abbrev Akb:ByteArray:=⟨#[100,101,108]⟩
abbrev Akc:ByteArray:=⟨#[105,110,99]⟩
abbrev Aka:ByteArray:=⟨#[99,97,115]⟩
abbrev Aj9:ByteArray:=⟨#[97,112,112,101,110,100]⟩
abbrev Aji:ByteArray:=⟨#[109,111,118,101]⟩
abbrev Ake:ByteArray:=⟨#[115,101,113]⟩
def Ajj (k:Int):ByteArray:=if k=1 then Akd else if k=2 then Akb else if k=3 then Akc else if k=4 then Aka else if k=5 then Aj9 else if k=6 then Aji else Ake
def Ae2 (key:ByteArray) (had:Bool) (was:Val):List (ByteArray×Val):=(Ei,tv key)::(if had then [(Aj6,was)]else [])
mutual
def Aj8:Mut->Val
 | .mk k key dst n had was has v l=>ov [(Ai9,ov (if k=1\/k=5 then [(Ei,tv key),(Jt,v)]else if k=2 then [(Ei,tv key)]else if k=3 then [(kBy,iv n),(Ei,tv key)]
    else if k=4 then(if has then [(kIs,v)]else [])++Ae2 key had was
    else if k=6 then [(Aja,tv key),(kTo,tv dst)]
    else(kDo,lv (Ahz l))::(if key.toList.isEmpty then []else [(kIf,ov (Ae2 key had was))]))),(Ajb,tv (Ajj k))]
def Ahz:List Mut->List Val
 | []=> []
 |m::r=>Aj8 m::Ahz r
end
mutual
def Bu:Val->Val->Bool
 | .mk k b n t l o,.mk k' b' n' t' l' o'=>decide (k=k')&&(if k=2 then b==b' else if k=3 then decide (n=n')else if k=4 then decide (t=t')else if k=5 then Jj l l' else if k=6 then Iw o o' else true)
def Jj:List Val->List Val->Bool
 | [], []=>true
 | [],_::_=>false
 |_::_, []=>false
 |x::r,y::s=>Bu x y&&Jj r s
def Iw:List (ByteArray×Val)->List (ByteArray×Val)->Bool
 | [], []=>true
 | [],_::_=>false
 |_::_, []=>false
 |p::r,q::s=>Ll p q&&Iw r s
def Ll:ByteArray×Val->ByteArray×Val->Bool
 |(k,x),(k',y)=>decide (k=k')&&Bu x y
end
theorem T4: ∀{l:List Val},(∀v ∈ l,Bu v v=true)->Jj l l=true
 | [],_=>by simp[Jj]
 |v::r,h=>by simp only[Jj,h v (by simp),T4 (l:=r) fun x hx=>h x (by simp[hx]),Bool.and_self]
theorem T5: ∀{o:List (ByteArray×Val)},(∀m ∈ o,Bu m.2 m.2=true)->Iw o o=true
 | [],_=>by simp[Iw]
 |(k,v)::r,h=>by
  have h1:Bu v v=true:=h (k,v) (by simp);simp only[Iw,Ll,h1,T5 (o:=r) fun x hx=>h x (by simp[hx]),Bool.and_self,decide_true]
theorem Ig: ∀v,Bu v v=true:=by
 refine Val.ind ?_;intro k b n t l o hl ho;simp only[Bu,T4 hl,T5 ho,decide_true,Bool.true_and,beq_self_eq_true]
 split
 . rfl
 split
 . rfl
 split
 . rfl
 split
 . rfl
 split<;>rfl
def Ago (a:Val):Prop:= ∀(b:Val) (d d':Int),Bb a d=0->Bb b d'=0->Bu a b=true->a=b
theorem Aca: ∀{l l':List Val},(∀v ∈ l,Ago v)-> ∀{d d':Int},Dd l d=0->Dd l' d'=0->Jj l l'=true->l=l'
 | [], [],_,_,_,_,_,_=>rfl
 | [],_::_,_,_,_,_,_,h=>by simp[Jj]at h
 |_::_, [],_,_,_,_,_,h=>by simp[Jj]at h
 |x::r,y::s,hc,d,d',h1,h2,h=>by
  simp only[Jj,Bool.and_eq_true]at h;have hx:Bb x d=0/\Dd r d=0:=by
   simp only[Dd]at h1;by_cases e:Bb x d=0
   . rw[if_pos e]at h1;exact⟨e,h1⟩
   . rw[if_neg e]at h1;exact absurd h1 e
  have hy:Bb y d'=0/\Dd s d'=0:=by
   simp only[Dd]at h2;by_cases e:Bb y d'=0
   . rw[if_pos e]at h2;exact⟨e,h2⟩
   . rw[if_neg e]at h2;exact absurd h2 e
  rw[hc x (by simp) y d d' hx.1 hy.1 h.1,Aca (fun v hv=>hc v (by simp[hv])) hx.2 hy.2 h.2]
theorem Acb: ∀{l l':List (ByteArray×Val)},(∀m ∈ l,Ago m.2)-> ∀{d d':Int},(∀m ∈ l,A4 m.1=true/\Bb m.2 d=0)->(∀m ∈ l',A4 m.1=true/\Bb m.2 d'=0)->Iw l l'=true->l=l'
 | [], [],_,_,_,_,_,_=>rfl
 | [],_::_,_,_,_,_,_,h=>by simp[Iw]at h
 |_::_, [],_,_,_,_,_,h=>by simp[Iw]at h
 |(k,x)::r,(k',y)::s,hc,d,d',h1,h2,h=>by
  simp only[Iw,Ll,Bool.and_eq_true,decide_eq_true_eq]at h;have hx:=(h1 (k,x) (by simp)).2;have hy:=(h2 (k',y) (by simp)).2;have hcx:Ago x:=hc (k,x) (by simp);rw[h.1.1,hcx y d d' hx hy h.1.2,Acb (fun m hm=>hc m (by simp[hm])) (fun m hm=>h1 m (by simp[hm])) (fun m hm=>h2 m (by simp[hm])) h.2]
theorem Akh: ∀a,Ago a:=by
 refine Val.ind ?_;intro k b n t l o hl ho v d d' hm hm' e;obtain⟨k',b',n',t',l',o'⟩:=v;obtain⟨hodd,_,hvt,hmL,hmO⟩:=Kj hm;obtain⟨hodd',_,hvt',hmL',hmO'⟩:=Kj hm';simp only[Bu,Bool.and_eq_true,decide_eq_true_eq]at e;obtain⟨hkk,e⟩:=e;subst hkk;obtain⟨hk,p1,p2,p3⟩:=Jv hodd;obtain⟨_,q1,q2,q3⟩:=Jv hodd';obtain⟨p4,p5⟩:=Afr hodd;obtain⟨q4,q5⟩:=Afr hodd';have nl: ∀{α:Type} {l:List α},l.length=0->l= []:=fun h=>List.length_eq_zero_iff.1 h;have hb:b=b':=by
  by_cases c:k=2
  . rw[if_pos c]at e;simpa using e
  . rw[p4.resolve_left c,q4.resolve_left c]
 have hn:n=n':=by
  by_cases c:k=3
  . rw[if_neg (by omega),if_pos c]at e;simpa using e
  . rw[p5.resolve_left c,q5.resolve_left c]
 have ht:t=t':=by
  by_cases c:k=4
  . rw[if_neg (by omega),if_neg (by omega),if_pos c]at e;simpa using e
  . rw[p1.resolve_left c,q1.resolve_left c]
 have hll:l=l':=by
  by_cases c:k=5
  . rw[if_neg (by omega),if_neg (by omega),if_neg (by omega),if_pos c]at e;exact Aca hl hmL hmL' e
  . rw[nl (p2.resolve_left c),nl (q2.resolve_left c)]
 have hoo:o=o':=by
  by_cases c:k=6
  . rw[if_neg (by omega),if_neg (by omega),if_neg (by omega),if_neg (by omega),if_pos c]at e;exact Acb ho (N3 hmO) (N3 hmO') e
  . rw[nl (p3.resolve_left c),nl (q3.resolve_left c)]
 rw[hb,hn,ht,hll,hoo]
theorem Af9 {a b:Val} {d d':Int} (ha:Bb a d=0) (hb:Bb b d'=0):Bu a b=true ↔ a=b:=⟨Akh a b d d' ha hb,fun e=>e▸Ig a⟩
mutual
def Aki:Mut->Mut->Bool
 | .mk k key dst n had was has v l,.mk k' key' dst' n' had' was' has' v' l'=>decide (k=k')&&decide (key=key')&&decide (dst=dst')&&decide (n=n')&&(had==had')&&(has==has')&&Bu was was'&&Bu v v'&&Ah0 l l'
def Ah0:List Mut->List Mut->Bool
 | [], []=>true
 | [],_::_=>false
 |_::_, []=>false
 |x::r,y::s=>Aki x y&&Ah0 r s
end
end Go.Proofs.YtnkmhaachfgaoaaGreatDoor
namespace Go.Proofs.YtnkmhaachfgaoaaGreatDoor
abbrev Wc:=ByteArray×Option Val×Option Val
def Bq:List Ax->List Ax->List Wc
 | [], []=> []
 | [],(k,v)::s=>(k,none,some v)::Bq [] s
 |(k,v)::r, []=>(k,some v,none)::Bq r []
 |(a,x)::r,(b,y)::s=>
  if Bn a b then(a,some x,none)::Bq r ((b,y)::s)else if Bn b a then(b,none,some y)::Bq ((a,x)::r) s
  else if Bu x y then Bq r s else(a,some x,some y)::Bq r s
termination_by a b=>a.length+b.length
theorem Qu (A B:List Ax): ∀X:List Ax,Bq (X++A) (X++B)=Bq A B
 | []=>rfl
 |(k,v)::r=>by
  rw[List.cons_append,List.cons_append,Bq,if_neg (by rw[Dc];simp),if_neg (by rw[Dc];simp),if_pos (Ig v),Qu A B r]
theorem Aem (X:List Ax):Bq X X= []:=by
 have:=Qu [] [] X;simp only[List.append_nil]at this;rw[this];simp[Bq]
theorem Qt {k:ByteArray} {v:Val} {r:List Ax}: ∀{s:List Ax},(∀e ∈ s,Bn k e.1=true)->Bq ((k,v)::r) s=(k,some v,none)::Bq r s
 | [],_=>by rw[Bq]
 |(b,y)::s,h=>by
  have h1:Bn k b=true:=h (b,y) (by simp);rw[Bq,if_pos h1]
theorem Qs {k:ByteArray} {v:Val} {s:List Ax}: ∀{r:List Ax},(∀e ∈ r,Bn k e.1=true)->Bq r ((k,v)::s)=(k,none,some v)::Bq r s
 | [],_=>by rw[Bq]
 |(a,x)::r,h=>by
  have h1:Bn k a=true:=h (a,x) (by simp);rw[Bq,if_neg (by rw[Nz h1];simp),if_pos h1]
theorem Zw {k:ByteArray} {x y:Val} {r s:List Ax}:Bq ((k,x)::r) ((k,y)::s)=if Bu x y then Bq r s else(k,some x,some y)::Bq r s:=by
 rw[Bq,if_neg (by rw[Dc];simp),if_neg (by rw[Dc];simp)]
def doC (l:List Ax):Wc->List Ax
 |(k,_,some v)=>Bz k v l
 |(k,_,none)=>B3 k l
def Eu:List Ax->List Ax->List Ax
 | [],s=>s
 |_::_, []=> []
 |(a,x)::r,(b,y)::s=>
  if Bn a b then Eu r ((b,y)::s)else if Bn b a then(b,y)::Eu ((a,x)::r) s
  else if Bu x y then(a,x)::Eu r s else(a,y)::Eu r s
termination_by a b=>a.length+b.length
theorem Rx {k:ByteArray} {v:Val} {P A:List Ax} (hP: ∀e ∈ P,Bn e.1 k=true) (hA: ∀e ∈ A,Bn k e.1=true):Bz k v (P++A)=P++(k,v)::A:=by
 rw[Lh hP,T1 hA]
theorem Ahm {k:ByteArray} {v x:Val} {P A:List Ax} (hP: ∀e ∈ P,Bn e.1 k=true):Bz k v (P++(k,x)::A)=P++(k,v)::A:=by
 rw[Lh hP,Bz,if_neg (by rw[Dc];simp),if_pos rfl]
theorem Abq {k:ByteArray} {x:Val} {P A:List Ax} (hP: ∀e ∈ P,Bn e.1 k=true) (hA: ∀e ∈ A,Bn k e.1=true):B3 k (P++(k,x)::A)=P++A:=by
 have:B3 k ((k,x)::A)=B3 k A:=by simp[B3]
 rw[K9,(Qe hP).1,this,(Ii hA).1]
theorem Ou: ∀(n:Nat) (P a b:List Ax),a.length+b.length<=n->Az a->Az b->(∀p ∈ P,∀e ∈ a,Bn p.1 e.1=true)->(∀p ∈ P,∀e ∈ b,Bn p.1 e.1=true)->(Bq a b).foldl doC (P++a)=P++Eu a b
 |_,P, [], [],_,_,_,_,_=>by rw[Bq,Eu];rfl
 |0,_, [],_::_,h,_,_,_,_=>by simp at h
 |0,_,_::_,_,h,_,_,_,_=>by simp at h
 |n+1,P, [],(k,v)::s,h,ha,hb,hPa,hPb=>by
  obtain⟨b1,b2⟩:=List.pairwise_cons.1 hb;have hP: ∀e ∈ P,Bn e.1 k=true:=fun e he=>hPb e he (k,v) (by simp);have ih:=Ou n (P++ [(k,v)]) [] s (by simp at h ⊢;omega) ha b2 (fun _ _ e he=>by cases he) (fun p hp e he=>by
   rcases List.mem_append.1 hp with hp|hp
   . exact hPb p hp e (by simp[he])
   . obtain rfl:=List.mem_singleton.1 hp;exact b1 e he)
  rw[Bq,List.foldl_cons,doC,Rx hP (by simp),Eu];rw[Eu]at ih;simpa using ih
 |n+1,P,(k,v)::r, [],h,ha,hb,hPa,hPb=>by
  obtain⟨a1,a2⟩:=List.pairwise_cons.1 ha;have hP: ∀e ∈ P,Bn e.1 k=true:=fun e he=>hPa e he (k,v) (by simp);have ih:=Ou n P r [] (by simp at h ⊢;omega) a2 hb (fun p hp e he=>hPa p hp e (by simp[he])) (fun _ _ e he=>by cases he);rw[Bq,List.foldl_cons,doC,Abq hP a1,ih]
  cases r with
  |nil=>rw[Eu,Eu]
  |cons _ _=>rw[Eu,Eu]
 |n+1,P,(a,x)::r,(b,y)::s,h,ha,hb,hPa,hPb=>by
  obtain⟨a1,a2⟩:=List.pairwise_cons.1 ha;obtain⟨b1,b2⟩:=List.pairwise_cons.1 hb;have hP: ∀e ∈ P,Bn e.1 a=true:=fun e he=>hPa e he (a,x) (by simp);have hQ: ∀e ∈ P,Bn e.1 b=true:=fun e he=>hPb e he (b,y) (by simp);rw[Bq,Eu];by_cases h1:Bn a b=true
  . rw[if_pos h1,if_pos h1,List.foldl_cons,doC,Abq hP a1];exact Ou n P r ((b,y)::s) (by simp at h ⊢;omega) a2 hb (fun p hp e he=>hPa p hp e (by simp[he])) hPb
  rw[if_neg h1,if_neg h1];by_cases h2:Bn b a=true
  . have hA: ∀e ∈ (a,x)::r,Bn b e.1=true:=by
     intro e he;rcases List.mem_cons.1 he with rfl|he
     . exact h2
     . exact Bw h2 (a1 e he)
    rw[if_pos h2,if_pos h2,List.foldl_cons,doC,Rx hQ hA];have ih:=Ou n (P++ [(b,y)]) ((a,x)::r) s (by simp at h ⊢;omega) ha b2 (fun p hp e he=>by
     rcases List.mem_append.1 hp with hp|hp
     . exact hPa p hp e he
     . obtain rfl:=List.mem_singleton.1 hp;exact hA e he) (fun p hp e he=>by
     rcases List.mem_append.1 hp with hp|hp
     . exact hPb p hp e (by simp[he])
     . obtain rfl:=List.mem_singleton.1 hp;exact b1 e he)
    simpa using ih
  rw[if_neg h2,if_neg h2];have e:a=b:=by
   rcases Fb a b with c|c|c
   . exact absurd c h1
   . exact c
   . exact absurd c h2
  subst e;have stp: ∀v:Val,(Bq r s).foldl doC ((P++ [(a,v)])++r)=(P++ [(a,v)])++Eu r s:=by
   intro v;refine Ou n (P++ [(a,v)]) r s (by simp at h ⊢;omega) a2 b2 (fun p hp e he=> ?_) (fun p hp e he=> ?_)
   . rcases List.mem_append.1 hp with hp|hp
     . exact hPa p hp e (by simp[he])
     . obtain rfl:=List.mem_singleton.1 hp;exact a1 e he
   . rcases List.mem_append.1 hp with hp|hp
     . exact hPb p hp e (by simp[he])
     . obtain rfl:=List.mem_singleton.1 hp;exact b1 e he
  by_cases h3:Bu x y=true
  . rw[if_pos h3,if_pos h3];simpa using stp x
  . rw[if_neg h3,if_neg h3,List.foldl_cons,doC,Ahm hP];simpa using stp y
def D0:List Ax->List Ax->Bool
 | [], []=>true
 | [],_::_=>false
 |_::_, []=>false
 |(a,x)::r,(b,y)::s=>decide (a=b)&&(Bu x y&&D0 r s)
theorem Fj: ∀l:List Ax,D0 l l=true
 | []=>rfl
 |(a,x)::r=>by simp only[D0,Ig,Fj r,decide_true,Bool.and_self]
theorem Kd: ∀(n:Nat) (a b:List Ax),a.length+b.length<=n->D0 (Eu a b) b=true
 |_, [],s,_=>by rw[Eu];exact Fj s
 |_,_::_, [],_=>by rw[Eu];rfl
 |0,_::_,_::_,h=>by simp at h
 |n+1,(a,x)::r,(b,y)::s,h=>by
  rw[Eu];by_cases h1:Bn a b=true
  . rw[if_pos h1];exact Kd n r _ (by simp at h ⊢;omega)
  rw[if_neg h1];by_cases h2:Bn b a=true
  . rw[if_pos h2];simp only[D0,Ig,decide_true,Bool.true_and];exact Kd n _ s (by simp at h ⊢;omega)
  rw[if_neg h2];have e:a=b:=by
   rcases Fb a b with c|c|c
   . exact absurd c h1
   . exact c
   . exact absurd c h2
  subst e;have ih:=Kd n r s (by simp at h ⊢;omega);by_cases h3:Bu x y=true
  . rw[if_pos h3];simp only[D0,h3,ih,decide_true,Bool.and_self]
  . rw[if_neg h3];simp only[D0,Ig,ih,decide_true,Bool.and_self]
end Go.Proofs.YtnkmhaachfgaoaaGreatDoor
namespace Go.Proofs.YtnkmhaachfgaoaaGreatDoor
open Go.RowKit
def O7 (x:List UInt8):Prop:= ∀c y,x=c::y->Abv c=false
def Zg (g:List UInt8):Prop:= ∀c ∈ g,Qg c=true
theorem Xd {s a x:List UInt8} {p:Nat} (h:s.drop p=a++x):s.drop (p+a.length)=x:=by
 rw[<-List.drop_drop,h,List.drop_left]
theorem Aev {s a x:List UInt8} {p:Nat} (h:s.drop p=a++x) (hp:p<=s.length):p+a.length<=s.length:=by
 have:=congrArg List.length h;rw[List.length_drop,List.length_append]at this;omega
theorem Ae1 {s x:List UInt8} {p:Nat} {c:UInt8} (h:s.drop p=c::x):s[p]? =some c:=by
 have:=List.getElem?_drop (xs:=s) (i:=p) (j:=0);rw[h]at this;simpa using this.symm
theorem Pl: ∀{g:List UInt8},Zg g-> ∀{s x:List UInt8} {p:Nat},s.drop p=g++x->De s p=De s (p+g.length)
 | [],_,_,_,_,_=>rfl
 |c::g,hg,s,x,p,h=>by
  rw[Ada (Ae1 h) (hg c (by simp))];have h2:s.drop (p+1)=g++x:=Xd (a:= [c]) (x:=g++x) (by simpa using h);rw[Pl (fun c hc=>hg c (by simp[hc])) h2,List.length_cons]
  congr 1;omega
theorem Aa9 {f:Nat} {s:List UInt8} {p p':Nat} {d:Int} (h:De s p=De s p'):Nc f s p d=Nc f s p' d:=by
 cases f with
 |zero=>unfold Nc;rw[h]
 |succ f=>unfold Nc;rw[h]
def Zl (t:List UInt8) (v:Val) (d:Int):Prop:= ∀f s p x,p<=s.length->s.drop p=t++x->O7 x->4*(s.length - p)+1<=f-> ∃q,Nc f s p d=.ok v q/\De s q=De s (p+t.length)
theorem O7.blanks {g x:List UInt8} (hg:Zg g) (hx:O7 x):O7 (g++x):=by
 intro c y h
 cases g with
 |nil=>exact hx c y h
 |cons a g=>
  have:a=c:=(List.cons.inj h).1;subst this;have:=hg a (by simp);unfold Qg at this;simp only[Bool.or_eq_true,beq_iff_eq]at this;rcases this with((rfl|rfl)|rfl)|rfl<;>decide
theorem O7.of {c:UInt8} {y:List UInt8} (h:Abv c=false):O7 (c::y):=by
 intro c' y' e;rw[<-(List.cons.inj e).1];exact h
theorem O7.nil:O7 []:=by intro c y e;cases e
theorem Zl.ahead {t:List UInt8} {v:Val} {d:Int} (h:Zl t v d) {g:List UInt8} (hg:Zg g):Zl (g++t) v d:=by
 intro f s p x hp hs hx hf;rw[List.append_assoc]at hs;have h1:=Pl hg hs;have h2:=Xd hs;have h3:=Aev hs hp;obtain⟨q,h4,h5⟩:=h f s (p+g.length) x h3 h2 hx (by omega);refine⟨q,by rw[Aa9 h1];exact h4, ?_⟩;rw[h5,List.length_append]
 congr 1;omega
structure Mem where
 pre:List UInt8
 mid:List UInt8
 txt:List UInt8
 key:ByteArray
 val:Val
end Go.Proofs.YtnkmhaachfgaoaaGreatDoor
namespace Go.Proofs.YtnkmhaachfgaoaaGreatDoor
end Go.Proofs.YtnkmhaachfgaoaaGreatDoor
namespace Go.Proofs.YtnkmhaachfgaoaaGreatDoor
open Go Go.RowKit
theorem Tv:((Tryz.prog.info? Sc).map fun i=>decide (i.size≠0))=some true:=by kernel_rfl
theorem Bj.blk {S:Nat->Prop} {w:World} {n:Nd} {b:Nat} (h:Bj S w n b): ∃cs,Ah w b Sc cs:=by
 cases n<;>simp only[Bj]at h
 . obtain⟨_,_,_,_,_,h⟩:=h;exact⟨_,h⟩
 . obtain⟨_,_,_,_,_,_,h,_⟩:=h;exact⟨_,h⟩
theorem Yk (w:World) (q:Nat):(binOp .eql 25 (.pointer (some ⟨q,0,none⟩)) (.pointer (some ⟨q,0,none⟩))).run Tryz.prog w=.ok (.bool true) w:=by
 have h:=Tv
 cases hj:Tryz.prog.info? Sc with
 |none=>rw[hj]at h;cases h
 |some j=>exact run_eql_ptr_same w _ (by kernel_rfl) hj
theorem Ty {w:World} {q r:Nat} {cs ds:Array Value} (hq:Ah w q Sc cs) (hr:Ah w r Sc ds) (hne:q≠r):(binOp .eql 25 (.pointer (some ⟨q,0,none⟩)) (.pointer (some ⟨r,0,none⟩))).run Tryz.prog w=.ok (.bool false) w:=by
 have h:=Tv
 cases hj:Tryz.prog.info? Sc with
 |none=>rw[hj]at h;cases h
 |some j=>
  rw[hj]at h;exact run_eql_ptr_other w (by kernel_rfl) hj (by simpa using h) (fun e=>hne (by cases e;rfl)) hq hr
end Go.Proofs.YtnkmhaachfgaoaaGreatDoor
