/- Parts: What is read as a mutator is its object, to any depth. Plain. No condition. -/
import Derived.Deep.RegionHeld
import Derived.Deep.Cut
import Derived.LoopTactic
import Derived.Deep.LoopGhost
import Derived.Test.YtobmaegpfbheoaaGreatDoorZPfShelfN
import Derived.Deep.RegionLaw
import Derived.Test.YtobmaegpfbheoaaGreatDoorZPfShelfS
import Derived.Shelf.SlSortCmp.WholeK
import Derived.Lib.ParseIntBCases
import Derived.Test.YtobmaegpfbheoaaGreatDoorKPf23
namespace Go.Proofs.YtobmaegpfbheoaaGreatDoor
def Abk:List UInt8->Nat
 | []=>0
 |x::r=>x.toNat+256*Abk r
def Aa0 (b:List UInt8):Bool:=decide (4<=b.length)&&decide (Cs 0 (b.take (b.length - 4))=Abk (b.drop (b.length - 4)))
def Abm (b:List UInt8):Option (List UInt8):=if Aa0 b then some (b.take (b.length - 4))else none
def Yy (k:UInt8) (b:List UInt8):Int:=match Abm b with
 |none=>11
 |some []=>11
 |some (x::_)=>if x=0 then 2 else if x=k then 0 else 13
def R8 (b:List UInt8):List UInt8:=((Abm b).getD []).drop 1
def Fo (k:ByteArray):List (ByteArray×Val)->Option Val
 | []=>none
 |p::r=>if p.1=k then some p.2 else Fo k r
end Go.Proofs.YtobmaegpfbheoaaGreatDoor
namespace Go.Proofs.YtobmaegpfbheoaaGreatDoor
open Go Go.RowKit
inductive Rd (α:Type) where
 |ok (a:α) (q:Nat)
 |bad (e:Int) (q:Nat)
def M4 (c:UInt8):Bool:=c==9||c==10||c==13||c==32
def blanks:List UInt8->Nat
 | []=>0
 |c::r=>if M4 c=true then blanks r+1 else 0
def Cl (s:List UInt8) (p:Nat):Nat:=p+blanks (s.drop p)
theorem Aaj {s:List UInt8} {p:Nat} {c:UInt8} (h:s[p]? =some c):s.drop p=c::s.drop (p+1):=by
 obtain⟨hlt,rfl⟩:=List.getElem?_eq_some_iff.1 h;exact List.drop_eq_getElem_cons hlt
theorem Xz {s:List UInt8} {p:Nat} {c:UInt8} (h:s[p]? =some c) (hb:M4 c=true):Cl s p=Cl s (p+1):=by
 unfold Cl;rw[Aaj h,blanks,if_pos hb];omega
def W4 (c:UInt8):Bool:=decide (48<=c.toNat/\c.toNat<=57)
def Ack:List UInt8->Nat
 | []=>0
 |c::r=>if W4 c=true then Ack r+1 else 0
def Qv (s:List UInt8) (p:Nat):Nat:=p+Ack (s.drop p)
def Ac5 (l:List UInt8):Nat:=l.foldl (fun a c=>a*10+(c.toNat - 48)) 0
def Ab5 (neg:Bool) (m p q:Nat):Rd Int:=
 if neg=true then(if m=0\/9223372036854775808<m then .bad 7 p else .ok (-(m:Int)) q)else if 9223372036854775807<m then .bad 7 p else .ok (m:Int) q
def Aau (s:List UInt8) (p f:Nat):Rd Int:=
 if Qv s f=f then .bad 4 f
 else if s[f]? =some 48/\f+1<Qv s f then .bad 4 (f+1)
 else Ab5 (decide (s[p]? =some 45)) (Ac5 ((s.drop f).take (Qv s f - f))) p (Qv s f)
def Zs (s:List UInt8) (p:Nat):Rd Int:=Aau s p (if s[p]? =some 45 then p+1 else p)
def Ac8 (c:UInt8):Option Nat:=
 if 48<=c.toNat/\c.toNat<=57 then some (c.toNat - 48)else if 97<=c.toNat/\c.toNat<=102 then some (c.toNat - 87)else if 65<=c.toNat/\c.toNat<=70 then some (c.toNat - 55)else none
def Acl:List UInt8->Nat->Nat->Option Nat
 |_,0,n=>some n
 | [],_+1,_=>none
 |c::l,k+1,n=>match Ac8 c with
  |none=>none
  |some d=>Acl l k (16*n+d)
def Abo (l:List UInt8):Option Nat:=if l.length<6\/l[0]? ≠some 92\/l[1]? ≠some 117 then none else Acl (l.drop 2) 4 0
def Abz (c:UInt8):Option Nat:=
 if c=34 then some 34 else if c=92 then some 92 else if c=47 then some 47 else if c=98 then some 8 else if c=102 then some 12 else if c=110 then some 10 else if c=114 then some 13 else if c=116 then some 9 else none
def Acv (r:Nat) (l:List UInt8):Rd Nat:=
 if r<55296\/57344<=r then .ok r 6
 else if 56320<=r then .bad 3 0
 else match Abo l with
  |none=> .bad 3 0
  |some m=>if m<56320\/57344<=m then .bad 3 0 else .ok (65536+1024*(r - 55296)+(m - 56320)) 12
def Ada (l:List UInt8):Rd Nat:=match l[1]? with
 |none=> .bad 4 0
 |some c=>match Abz c with
  |none=> .bad 4 0
  |some r=> .ok r 2
def Ac6 (l:List UInt8):Rd Nat:=match Abo l with
 |some r=>Acv r (l.drop 6)
 |none=>Ada l
def Ach:Nat->List UInt8->Nat->List UInt8->Rd (List UInt8)
 |0,_,i,_=> .bad 4 i
 |f+1,s,i,out=>match s[i]? with
  |none=> .bad 4 i
  |some c=>
   if c=34 then .ok out (i+1)
   else if c.toNat<32 then .bad 4 i
   else if c=92 then(match Ac6 (s.drop i)with
    | .bad e _=> .bad e i
    | .ok r n=>Ach f s (i+n) (out++Lib.encodeRune (r:Int)))
   else if(Lib.decodeL (s.drop i)).1=65533/\(Lib.decodeL (s.drop i)).2=1 then .bad 3 i
   else Ach f s (i+(Lib.decodeL (s.drop i)).2) (out++(s.drop i).take (Lib.decodeL (s.drop i)).2)
def Abp (s:List UInt8) (p:Nat):Rd (List UInt8):=if s[p]? =some 34 then Ach (s.length - p) s (p+1) []else .bad 4 p
def Rd.within {α:Type} (p n:Nat):Rd α->Prop
 | .ok _ q=>p<q/\q<=n
 | .bad e q=>p<=q/\q<=n/\1<=e/\e<=18
def Lf:ByteArray:=⟨#[]⟩
def Abl:Val:=.mk 1 false 0 Lf [] []
def Abg (b:Bool):Val:=.mk 2 b 0 Lf [] []
def Ac9 (n:Int):Val:=.mk 3 false n Lf [] []
def Add (l:List UInt8):Val:=.mk 4 false 0 ⟨l.toArray⟩ [] []
def Acr (l:List Val):Val:=.mk 5 false 0 Lf l []
def Acs (o:List (ByteArray×Val)):Val:=.mk 6 false 0 Lf [] o
def Rd.map {α β:Type} (g:α->β):Rd α->Rd β
 | .ok a q=> .ok (g a) q
 | .bad e q=> .bad e q
def Wq (s:List UInt8) (p:Nat) (w:List UInt8) (v:Val):Rd Val:=if w.isPrefixOf (s.drop p)=true then .ok v (p+w.length)else .bad 4 p
def Acy (l:List (ByteArray×Val)):List (ByteArray×Val):=(C6 l []).getD []
def Ac7 (k:ByteArray) (l:List (ByteArray×Val)):Bool:=l.any fun m=>decide (m.1=k)
def Aa1 (c:UInt8):Bool:=W4 c||c==45||c==34||c==91||c==123||c==110||c==116||c==102
mutual
def J1:Nat->List UInt8->Nat->Int->Rd Val
 |0,s,p,_=> .bad 4 (Cl s p)
 |f+1,s,p,d=>match s[Cl s p]? with
  |none=> .bad 4 (Cl s p)
  |some c=>
   if Aa1 c=false then .bad 4 (Cl s p)
   else if 64<d then .bad 5 (Cl s p)
   else if c=91 then Acq f s (Cl s p) d
   else if c=123 then Adb f s (Cl s p) d
   else if c=34 then(Abp s (Cl s p)).map Add
   else if c=110 then Wq s (Cl s p) [110,117,108,108] Abl
   else if c=116 then Wq s (Cl s p) [116,114,117,101] (Abg true)
   else if c=102 then Wq s (Cl s p) [102,97,108,115,101] (Abg false)
   else(Zs s (Cl s p)).map Ac9
def Acq:Nat->List UInt8->Nat->Int->Rd Val
 |0,s,p,_=> .bad 4 (Cl s (p+1))
 |f+1,s,p,d=>if s[Cl s (p+1)]? =some 93 then .ok (Acr []) (Cl s (p+1)+1)else Vo f s (Cl s (p+1)) d []
def Adb:Nat->List UInt8->Nat->Int->Rd Val
 |0,s,p,_=> .bad 4 (Cl s (p+1))
 |f+1,s,p,d=>if s[Cl s (p+1)]? =some 125 then .ok (Acs []) (Cl s (p+1)+1)else N8 f s (Cl s (p+1)) d []
def Vo:Nat->List UInt8->Nat->Int->List Val->Rd Val
 |0,s,p,_,_=> .bad 4 (Cl s p)
 |f+1,s,p,d,acc=>match J1 f s p (d+1)with
  | .bad e q=> .bad e q
  | .ok v q=>if s[Cl s q]? =some 44 then Vo f s (Cl s q+1) d (acc++ [v])else if s[Cl s q]? =some 93 then .ok (Acr (acc++ [v])) (Cl s q+1)else .bad 4 (Cl s q)
def N8:Nat->List UInt8->Nat->Int->List (ByteArray×Val)->Rd Val
 |0,s,p,_,_=> .bad 4 (Cl s p)
 |f+1,s,p,d,acc=>match Abp s (Cl s p)with
  | .bad e q=> .bad e q
  | .ok k q=>if Ac7 ⟨k.toArray⟩ acc=true then .bad 8 (Cl s p)
    else if s[Cl s q]? =some 58 then Aas f s (Cl s q+1) d acc ⟨k.toArray⟩
    else .bad 4 (Cl s q)
def Aas:Nat->List UInt8->Nat->Int->List (ByteArray×Val)->ByteArray->Rd Val
 |0,s,p,_,_,_=> .bad 4 (Cl s p)
 |f+1,s,p,d,acc,k=>match J1 f s p (d+1)with
  | .bad e q=> .bad e q
  | .ok v q=>if s[Cl s q]? =some 44 then N8 f s (Cl s q+1) d (acc++ [(k,v)])else if s[Cl s q]? =some 125 then .ok (Acs (Acy (acc++ [(k,v)]))) (Cl s q+1)else .bad 4 (Cl s q)
end
theorem Rd.within.from {α:Type} {p p' n:Nat} {r:Rd α} (h:r.within p' n) (hp:p<=p'):r.within p n:=by
 cases r with
 |ok a q=>exact⟨by have:=h.1;omega,h.2⟩
 |bad e q=>exact⟨by have:=h.1;omega,h.2⟩
theorem Rd.within.map {α β:Type} {g:α->β} {p n:Nat} {r:Rd α} (h:r.within p n):(r.map g).within p n:=by
 cases r<;>exact h
theorem le_of_lt {a b:ByteArray} (h:P5 b a=true):M5 a b=false:=by
 unfold M5;have h1:=Sz h;unfold P5 at h1;rw[h1,Bool.false_or]
 cases e:(a.toList==b.toList)with
 |false=>rfl
 |true=>
  have:a=b:=F3 (by simpa using e);subst this;rw[G3]at h;cases h
def L2 (x:List UInt8):Prop:= ∀c y,x=c::y->W4 c=false
def Uk (g:List UInt8):Prop:= ∀c ∈ g,M4 c=true
theorem Sm {s a x:List UInt8} {p:Nat} (h:s.drop p=a++x):s.drop (p+a.length)=x:=by
 rw[<-List.drop_drop,h,List.drop_left]
theorem Zc {s a x:List UInt8} {p:Nat} (h:s.drop p=a++x) (hp:p<=s.length):p+a.length<=s.length:=by
 have:=congrArg List.length h;rw[List.length_drop,List.length_append]at this;omega
theorem Zf {s x:List UInt8} {p:Nat} {c:UInt8} (h:s.drop p=c::x):s[p]? =some c:=by
 have:=List.getElem?_drop (xs:=s) (i:=p) (j:=0);rw[h]at this;simpa using this.symm
theorem Mh: ∀{g:List UInt8},Uk g-> ∀{s x:List UInt8} {p:Nat},s.drop p=g++x->Cl s p=Cl s (p+g.length)
 | [],_,_,_,_,_=>rfl
 |c::g,hg,s,x,p,h=>by
  rw[Xz (Zf h) (hg c (by simp))];have h2:s.drop (p+1)=g++x:=Sm (a:= [c]) (x:=g++x) (by simpa using h);rw[Mh (fun c hc=>hg c (by simp[hc])) h2,List.length_cons]
  congr 1;omega
theorem Wk {f:Nat} {s:List UInt8} {p p':Nat} {d:Int} (h:Cl s p=Cl s p'):J1 f s p d=J1 f s p' d:=by
 cases f with
 |zero=>unfold J1;rw[h]
 |succ f=>unfold J1;rw[h]
def Ur (t:List UInt8) (v:Val) (d:Int):Prop:= ∀f s p x,p<=s.length->s.drop p=t++x->L2 x->4*(s.length - p)+1<=f-> ∃q,J1 f s p d=.ok v q/\Cl s q=Cl s (p+t.length)
theorem L2.blanks {g x:List UInt8} (hg:Uk g) (hx:L2 x):L2 (g++x):=by
 intro c y h
 cases g with
 |nil=>exact hx c y h
 |cons a g=>
  have:a=c:=(List.cons.inj h).1;subst this;have:=hg a (by simp);unfold M4 at this;simp only[Bool.or_eq_true,beq_iff_eq]at this;rcases this with((rfl|rfl)|rfl)|rfl<;>decide
theorem L2.of {c:UInt8} {y:List UInt8} (h:W4 c=false):L2 (c::y):=by
 intro c' y' e;rw[<-(List.cons.inj e).1];exact h
theorem L2.nil:L2 []:=by intro c y e;cases e
theorem Ur.ahead {t:List UInt8} {v:Val} {d:Int} (h:Ur t v d) {g:List UInt8} (hg:Uk g):Ur (g++t) v d:=by
 intro f s p x hp hs hx hf;rw[List.append_assoc]at hs;have h1:=Mh hg hs;have h2:=Sm hs;have h3:=Zc hs hp;obtain⟨q,h4,h5⟩:=h f s (p+g.length) x h3 h2 hx (by omega);refine⟨q,by rw[Wk h1];exact h4, ?_⟩;rw[h5,List.length_append]
 congr 1;omega
structure Mem where
 pre:List UInt8
 mid:List UInt8
 txt:List UInt8
 key:ByteArray
 val:Val
def Mem.pair (m:Mem):ByteArray×Val:=(m.key,m.val)
end Go.Proofs.YtobmaegpfbheoaaGreatDoor
namespace Go.Proofs.YtobmaegpfbheoaaGreatDoor
abbrev noV:Val:=.mk 0 false 0 Ti [] []
end Go.Proofs.YtobmaegpfbheoaaGreatDoor
namespace Go.Proofs.YtobmaegpfbheoaaGreatDoor
open Go Go.RowKit
theorem Ab3 {S:Nat->Prop} {s n c g off:Nat} {w:World} {l:List D} {q:Nat} {d:D} {u0 v1:Value} (h:Ac S w (.row s l) [.slice (some ⟨g,off,none⟩) n c]) (hi:l[q]? =some d) (hu: ∀(w:World) (B:Nat) cs,Ag w B d cs->cs[0]? =some u0) (hv:v1≠u0):
 S g/\ ∀cs:List Value,(∀j u,cs[j]? =some u->w.cell? ⟨g,off+q*s+j,none⟩=some u)->cs.length=s->Ac S w d cs:=by
 obtain⟨g',off',e,hg,cs0,h1,hl0,hc0⟩:=h.now.at_ hi
 cases e
 have hf:=hc0 0 u0 (hu _ _ _ h1);have hge:S g:=by
  refine Classical.byContradiction fun hlt=>hv ?_;obtain⟨g2,off2,e,_,cs1,h2,_,hc1⟩:=(h (w.setCell ⟨g,off+q*s+0,none⟩ v1) (by simp[World.setCell]) (fun p p1 p2=>World.cell?_setCell_far _ _ _ _ (by show g≠p.block;intro e;exact hlt (e▸p1)))).at_ hi
  cases e
  have:=hc1 0 u0 (hu _ _ _ h2);rw[World.cell?_setCell_same _ _ _ hf]at this;exact Option.some.inj this
 refine⟨hge,fun cs hcs hl w'' hs hk=> ?_⟩;obtain⟨g2,off2,e,_,cs2,h2,hl2,hc2⟩:=(h w'' hs hk).at_ hi
 cases e
 have:cs2=cs:=by
  refine List.ext_getElem? fun j=> ?_;by_cases hj:j<s
  . obtain⟨u,hu1⟩: ∃u,cs2[j]? =some u:=⟨_,List.getElem?_eq_getElem (by omega)⟩;obtain⟨u',hu2⟩: ∃u,cs[j]? =some u:=⟨_,List.getElem?_eq_getElem (by omega)⟩;have e1:=hc2 j u hu1;rw[hk _ hge hg,hcs j u' hu2]at e1;rw[hu1,hu2,Option.some.inj e1]
  . rw[List.getElem?_eq_none (by omega),List.getElem?_eq_none (by omega)]
 rw[<-this];exact h2
theorem Ac.base {S:Nat->Prop} {w0 w:World} {d:D} {cs:List Value} (h:Ac S w0 d cs) (hb:Below w0.heap.size w0 w):Ac (fun i=>S i/\i<w0.heap.size) w d cs:=fun w'' h1 h2=>
 (h w'' (Nat.le_trans hb.size h1) fun p p1 p2=>(h2 p ⟨p1,p2⟩ (Nat.lt_of_lt_of_le p2 hb.size)).trans (hb.cell p2)).more hb.size
theorem Wg {S:Nat->Prop} {w4:World} {k:Int} {b:Bool} {n:Int} {t:ByteArray} {l:List Val} {o:List (ByteArray×Val)} {cs:List Value} (h:Ac S w4 (dV (.mk k b n t l o)) cs): ∃la lc oa oc,cs= [.int .i64 k,.bool b,.int .i64 n,.string t,.slice la l.length lc,.slice oa o.length oc]:=by
 have h1:=Cr _ _ h.now;simp only[Ab]at h1;obtain⟨la,lc,oa,oc,e,_,_⟩:=h1;exact⟨la,lc,oa,oc,e⟩
theorem Ab4 (S:Nat->Prop) (w:World):Ac S w (dV noV) [.int .i64 0,.bool false,.int .i64 0,.string ⟨#[]⟩,.slice none 0 0,.slice none 0 0]:=fun w'' _ _=>by
 show Ag w'' w.heap.size (dV (.mk 0 false 0 ⟨#[]⟩ [] [])) _;simp only[dV,Ag];exact Ae.six.2 ⟨[.slice none 0 0], [.slice none 0 0],rfl,rfl,rfl,rfl,rfl,⟨none,0,rfl,by simp[dL], [],rfl,by simp[dL]⟩,⟨none,0,rfl,by simp[dO], [],rfl,by simp[dO]⟩⟩
def M0 (o:List (ByteArray×Val)) (key:ByteArray) (w:World) (e:Ending) (w':World):Prop:=Below w.heap.size w w'/\match Fo key o with
 |none=>e=.returned (.tuple #[.agg Af,.bool false])
 |some x=> ∃cs:List Value,e=.returned (.tuple #[.agg cs.toArray,.bool true])/\Ag w w.heap.size (dV x) cs
def Abd (S:Nat->Prop) (w0:World) (o:List (ByteArray×Val)) (key:ByteArray) (w:World) (e:Ending) (w':World):Prop:=Below w.heap.size w w'/\match Fo key o with
 |none=>e=.returned (.tuple #[.agg Af,.bool false])
 |some x=> ∃cs:List Value,e=.returned (.tuple #[.agg cs.toArray,.bool true])/\Ac S w0 (dV x) cs
structure FN (w wr:World):Prop where
 below:Below w.heap.size w wr
 res:Aj wr w.heap.size 42 Af
theorem FN.alloc {w wr:World} (h:FN w wr) (o:Obj):FN w (wr.alloc o):=⟨h.below.alloc h.below.size o,h.res.alloc o⟩
structure Fld (w:World) (g off:Nat) (fs:List (ByteArray×Int)):Prop where
 lt:g<w.heap.size
 key: ∀j p,fs[j]? =some p->w.cell? ⟨g,off+j*2,none⟩=some (.string p.1)
 has: ∀j p,fs[j]? =some p->w.cell? ⟨g,off+j*2+1,none⟩=some (.int .i64 p.2)
theorem Fld.below {w w':World} {g off:Nat} {fs:List (ByteArray×Int)} (h:Fld w g off fs) (hb:Below w.heap.size w w'):Fld w' g off fs:=
 ⟨Nat.lt_of_lt_of_le h.lt hb.size,fun j p e=>(hb.cell (p:=⟨g,off+j*2,none⟩) h.lt).trans (h.key j p e),fun j p e=>(hb.cell (p:=⟨g,off+j*2+1,none⟩) h.lt).trans (h.has j p e)⟩
def KV (R:Nat):List (Int×Value):=
 let f:=fun n:Nat=>Value.func (.func n) #[.pointer (some ⟨R,0,none⟩)] #[]
 [(110,f 210),(102,f 211),(116,f 212),(34,f 213),(91,f 214),(123,f 215),(45,f 216),
  (48,f 216),(49,f 216),(50,f 216),(51,f 216),(52,f 216),(53,f 216),(54,f 216),(55,f 216),(56,f 216),(57,f 216)]
def RdB (w:World) (R g:Nat) (s:ByteArray) (k:Nat):Prop:=Aj w R 225 #[.string s,.int .i64 k,.map (some g)]
def D3 (R g:Nat) (s:ByteArray) (k':Nat) (w w':World):Prop:=w.grownBy w' (some R)/\RdB w' R g s k'
theorem Jf {w w1 w2:World} {r:Option Nat} (h:w.grownBy w1 r) (k:w1.grownBy w2 r):w.grownBy w2 r:=
 ⟨k.os.trans h.os,k.tape.trans h.tape,k.output.trans h.output,Nat.le_trans h.size k.size,fun i hi hn=>(k.block i (Nat.lt_of_lt_of_le hi h.size) hn).trans (h.block i hi hn)⟩
theorem Oy {w w1:World} {r:Option Nat} (h:w.grownBy w1 r) (n:Nat):w.grownBy (w1.drewN n) r:=⟨h.os,h.tape,h.output,h.size,h.block⟩
theorem Ow {w w1:World} {r:Option Nat} (h:w.grownBy w1 r) (o:Obj):w.grownBy (w1.alloc o) r:=
 ⟨h.os,h.tape,h.output,Nat.le_trans h.size (by simp),fun i hi hne=>(Below.heap_alloc w1 o i (Nat.lt_of_lt_of_le hi h.size)).trans (h.block i hi hne)⟩
theorem Ox {w w1 w2:World} {r:Option Nat} (h:w.grownBy w1 r) (k:Below w1.heap.size w1 w2):w.grownBy w2 r:=
 ⟨k.os.trans h.os,k.tape.trans h.tape,k.output.trans h.output,Nat.le_trans h.size k.size,fun i hi hn=>(k.block i (Nat.lt_of_lt_of_le hi h.size)).trans (h.block i hi hn)⟩
theorem L7 {w w1:World} {r:Nat} (h:w.grownBy w1 (some r)) (p:Addr) (hp:p.block=r\/w.heap.size<=p.block) (u:Value):w.grownBy (w1.setCell p u) (some r):=
 ⟨h.os,h.tape,h.output,by simpa[World.setCell]using h.size,fun i hi hne=>(Below.heap_setCell w1 p u i (by
   rintro rfl;rcases hp with hp|hp
   . exact hne (by rw[hp])
   . omega)).trans (h.block i hi hne)⟩
theorem Li {w w1:World} (r:Option Nat) (k:Below w.heap.size w w1):w.grownBy w1 r:=⟨k.os,k.tape,k.output,k.size,fun i hi _=>k.block i hi⟩
theorem D3.refl {w:World} {R g k:Nat} {s:ByteArray} (h:RdB w R g s k):D3 R g s k w w:=⟨World.grownBy.refl _ _,h⟩
theorem D3.trans {w w1 w2:World} {R g k k':Nat} {s:ByteArray} (h:D3 R g s k w w1) (h':D3 R g s k' w1 w2):D3 R g s k' w w2:=⟨Jf h.1 h'.1,h'.2⟩
theorem D3.drewN {w w1:World} {R g k:Nat} {s:ByteArray} (h:D3 R g s k w w1) (n:Nat):D3 R g s k w (w1.drewN n):=⟨Oy h.1 n,h.2⟩
theorem D3.drew {w w1:World} {R g k:Nat} {s:ByteArray} (h:D3 R g s k w w1):D3 R g s k w w1.drew:=⟨⟨h.1.os,h.1.tape,h.1.output,h.1.size,h.1.block⟩,h.2⟩
theorem D3.alloc {w w1:World} {R g k:Nat} {s:ByteArray} (h:D3 R g s k w w1) (o:Obj):D3 R g s k w (w1.alloc o):=⟨Ow h.1 o,Aj.alloc h.2 o⟩
theorem D3.below {w w1 w2:World} {R g k:Nat} {s:ByteArray} (h:D3 R g s k w w1) (hb:Below w1.heap.size w1 w2):D3 R g s k w w2:=⟨Ox h.1 hb,Aj.below h.2 hb (Aj.lt h.2)⟩
theorem D3.set {w w1:World} {R g k:Nat} {s:ByteArray} (h:D3 R g s k w w1) (k':Nat):D3 R g s k' w (w1.setCell ⟨R,1,none⟩ (.int .i64 k')):=
 ⟨L7 h.1 _ (.inl rfl) _,by have:=Aj.set_ h.2 1 (.int .i64 k');exact this⟩
theorem RdB.cells {w:World} {R g k:Nat} {s:ByteArray} (h:RdB w R g s k):w.cell? ⟨R,0,none⟩=some (.string s)/\w.cell? ⟨R,1,none⟩=some (.int .i64 k)/\w.cell? ⟨R,2,none⟩=some (.map (some g))/\w.frozen? ⟨R,1,none⟩=false/\R<w.heap.size:=
 ⟨Aj.cell h 0,Aj.cell h 1,Aj.cell h 2,Aj.frozen h 1,Aj.lt h⟩
attribute [local go_sem] Oper.semAt_some
attribute [local go_sem] Oper.semAt_some
theorem D3.many {R g q B:Nat} {s:ByteArray} {w:World} (hB:w.heap.size<=B) (hR:R<w.heap.size): ∀(vs:List Value) (o:Nat) {w1:World},D3 R g s q w w1->D3 R g s q w (Ay w1 B o vs)
 | [],_,_,h=>h
 |v::vs,o,w1,h=>D3.many hB hR vs (o+1) ⟨L7 h.1 ⟨B,o,none⟩ (.inr hB) v,Aj.far h.2 (by show R≠B;omega) v⟩
theorem D3.res {R g q:Nat} {s:ByteArray} {w w1:World} {t:TypeId} {cs:Array Value} (h:D3 R g s q (w.alloc (.cells cs t)) w1) (hR:R<w.heap.size):Aj w1 w.heap.size t cs:=(Aj.new w t cs).grown h.1 (by intro e;cases e;omega)
section
variable {α:Type} [DecidableEq α] {f:α->Value} {P:Program} {kt et t:TypeId} {w w':World} {g:Nat} {kv:List (α×Value)}
end
structure NR (s:ByteArray) (w wr:World) (m:Option Nat) (kv:List (Int×Value)):Prop where
 below:Below w.heap.size w wr
 map:B8 (Value.int .u8) wr (w.heap.size+1) kv
 blk:Aj wr w.heap.size 225 #[.string s,.int .i64 0,.map m]
theorem NR.ins {s:ByteArray} {w wr w':World} {m:Option Nat} {kv kv':List (Int×Value)} (h:NR s w wr m kv) (hM:B8 (Value.int .u8) w' (w.heap.size+1) kv') (hg:wr.grownBy w' (some (w.heap.size+1))):NR s w w' m kv':=
 ⟨h.below.grown hg h.below.size fun k e=>by have:=Option.some.inj e;omega,hM,h.blk.grown hg (by intro e;have:=Option.some.inj e;omega)⟩
theorem NR.set {s:ByteArray} {w wr:World} {m:Option Nat} {kv:List (Int×Value)} (h:NR s w wr m kv):NR s w (wr.setCell ⟨w.heap.size,2,none⟩ (.map (some (w.heap.size+1)))) (some (w.heap.size+1)) kv:=
 ⟨h.below.setCell (Nat.le_refl _) _,h.map.setCell (by show w.heap.size+1≠w.heap.size;omega) _,by have:=h.blk.set_ 2 (.map (some (w.heap.size+1)));exact this⟩
structure RdI (w0 w:World) (R g:Nat) (s:ByteArray) (k:Nat):Prop where
 below:Below w0.heap.size w0 w
 ge:w0.heap.size<=R
 rd:RdB w R g s k
 map:B8 (Value.int .u8) w g (KV R)
theorem RdI.ne {w0 w:World} {R g k:Nat} {s:ByteArray} (h:RdI w0 w R g s k):g≠R:=by
 rintro rfl;have h1:=h.rd;have h2:=h.map;unfold RdB Aj at h1;unfold B8 at h2;rw[h1]at h2;simp at h2
theorem RdI.later {w0 w w':World} {R g k:Nat} {s:ByteArray} (h:RdI w0 w R g s k) (t:Below w.heap.size w w'):RdI w0 w' R g s k:=
 ⟨h.below.trans (t.mono h.below.size),h.ge,Aj.below h.rd t (Aj.lt h.rd),h.map.below t h.map.lt⟩
theorem D3.app {w w5 w6:World} {R g k b:Nat} {s:ByteArray} {e:TypeId} {sz:Nat} {l:List D} {V:Value} {wr:World} (h:D3 R g s k w w5) (hg:w5.grownBy w6 V.ownBlock) (hr:C1 b e sz wr l V) (hb:w.heap.size<=b) (hR:R<w.heap.size):D3 R g s k w w6:=by
 have hne: ∀i,i<w.heap.size->some i≠V.ownBlock:=fun i hi e=>by have:=(hr.base i e.symm).1;omega
 exact⟨⟨hg.os.trans h.1.os,hg.tape.trans h.1.tape,hg.output.trans h.1.output,Nat.le_trans h.1.size hg.size,fun i hi hn=>(hg.block i (by have:=h.1.size;omega) (hne i hi)).trans (h.1.block i hi hn)⟩,Aj.grown h.2 hg (hne R hR)⟩
structure RdL (w wr:World) (R g:Nat) (s:ByteArray) (j:Nat) (cs:Array Value):Prop where
 went:D3 R g s j w wr
 res:Aj wr w.heap.size 42 Af
 var:Aj wr (w.heap.size+1) 42 cs
structure LRd (w wr:World) (R g:Nat) (s:ByteArray) (d:Int) (RES:Rd Val) (f n j:Nat) (acc:List Val) (V:Value):Prop where
 all:RdL w wr R g s j #[.int .i64 5,.bool false,.int .i64 0,.string ⟨#[]⟩,V,.slice none 0 0]
 row:C1 (w.heap.size+2) 42 6 wr (dL acc) V
 is:Vo n s.data.toList j d acc=RES
 fuel:4*(s.size - j)+2<=n
 lt:n<f
 few:acc.length<=j
def Acn (acc:List (ByteArray×Val)):List (ByteArray×Value):=acc.map fun m=>(m.1,Value.agg #[])
theorem B8.grown {α:Type} {f:α->Value} {w w':World} {g:Nat} {kv:List (α×Value)} {r:Option Nat} (h:B8 f w g kv) (t:w.grownBy w' r) (hg:some g≠r):B8 f w' g kv:=h.keep (t.block g h.lt hg)
structure MC where
 key:ByteArray
 val:Val
 cs:List Value
 len:cs.length=6
 one: ∀v ∈ cs,v.oneCell'=true
instance:Inhabited MC:=⟨⟨Lf,Abl, [.int .i64 0,.int .i64 0,.int .i64 0,.int .i64 0,.int .i64 0,.int .i64 0],rfl,by simp[Value.oneCell']⟩⟩
def MC.enc (x:MC):List Value:=.string x.key::x.cs
def MC.pair (x:MC):ByteArray×Val:=(x.key,x.val)
structure ORd (w wr:World) (R g:Nat) (s:ByteArray) (d:Int) (RES:Rd Val) (G f n j:Nat) (acc:List (ByteArray×Val)) (V:Value):Prop where
 all:RdL w wr R g s j #[.int .i64 6,.bool false,.int .i64 0,.string ⟨#[]⟩,.slice none 0 0,V]
 row:C1 (G+1) 74 7 wr (dO acc) V
 map:B8 Value.string wr G (Acn acc)
 nod:(acc.map (·.1)).Nodup
 is:N8 n s.data.toList j d acc=RES
 fuel:4*(s.size - j)+2<=n
 lt:n<f
 few:acc.length<=j
def Abt (w:World):Prop:= ∃te pe,w.cell? ⟨8,0,none⟩=some (.iface te pe)
structure NRd (w wr:World) (R g:Nat) (s:ByteArray) (j:Nat):Prop where
 went:D3 R g s j w wr
 res:Aj wr w.heap.size 42 Af
theorem RdI.drewN {w0 w:World} {R g k:Nat} {s:ByteArray} (h:RdI w0 w R g s k) (n:Nat):RdI w0 (w.drewN n) R g s k:=⟨⟨h.below.os,h.below.tape,h.below.output,h.below.size,h.below.block⟩,h.ge,h.rd,h.map⟩
theorem Abt.below {w w':World} (h:Abt w) (hb:Below w.heap.size w w'):Abt w':=by
 obtain⟨te,pe,h⟩:=h;refine⟨te,pe, ?_⟩;rw[hb.cell (p:=⟨8,0,none⟩) ?_]
 . exact h
 . rcases Nat.lt_or_ge 8 w.heap.size with q|q
   . exact q
   . simp[World.cell?,Array.getElem?_eq_none q]at h
structure P3 (w W:World) (a:Array Value) (vb vc:Value):Prop where
 below:Below w.heap.size w W
 blkA:Aj W w.heap.size 42 a
 blkB:Aj W (w.heap.size+1) 3 #[vb]
 blkC:Aj W (w.heap.size+2) 27 #[vc]
theorem P3.later {w W W':World} {a:Array Value} {vb vc:Value} (h:P3 w W a vb vc) (t:Below W.heap.size W W'):P3 w W' a vb vc:=
 ⟨h.below.trans (t.mono h.below.size),h.blkA.below t h.blkA.lt,h.blkB.below t h.blkB.lt,h.blkC.below t h.blkC.lt⟩
def FS (W:World) (e q:Int) (X:World):Prop:=X.cell? ⟨W.heap.size,0,none⟩=some (.int .i64 e)/\X.cell? ⟨W.heap.size,1,none⟩=some (.int .i64 q)
theorem FS.new (W:World) (e q:Int):FS W e q (W.alloc (.cells #[.int .i64 e,.int .i64 q] 219)).drew:=
 ⟨(Aj.new W 219 #[.int .i64 e,.int .i64 q]).cell 0,(Aj.new W 219 #[.int .i64 e,.int .i64 q]).cell 1⟩
theorem FS.many {W X:World} {e q:Int} (h:FS W e q X) {g:Nat} (hg:g<W.heap.size) (vs:List Value) (o:Nat):FS W e q (Ay X g o vs):=
 ⟨(World.cell?_of_block (Ak vs X g o W.heap.size (by omega))).trans h.1,(World.cell?_of_block (Ak vs X g o W.heap.size (by omega))).trans h.2⟩
theorem FS.set {W X:World} {e q:Int} (h:FS W e q X) {g:Nat} (hg:g<W.heap.size) (v:Value):FS W e q (X.setCell ⟨g,0,none⟩ v):=FS.many h hg [v] 0
theorem P3.start {w W:World} {a:Array Value} {vb vc:Value} (h:P3 w W a vb vc) (o:Obj):P3 w (W.alloc o).drew a vb vc:=(h.later (Aa W o)).later (Below.drew (Below.refl _ _))
structure RBx (w W:World) (cs:Array Value):Prop where
 below:Below w.heap.size w W
 blk:Aj W w.heap.size 42 cs
theorem RBx.start (w:World):RBx w (w.alloc (.cells Af 42)) Af:=⟨Aa w _,Aj.new _ _ _⟩
theorem RBx.later {w W W':World} {cs:Array Value} (h:RBx w W cs) (t:Below W.heap.size W W'):RBx w W' cs:=⟨h.below.trans (t.mono h.below.size),h.blk.below t h.blk.lt⟩
theorem RBx.many {w W:World} {b0 b1 b2 b3 b4 b5:Value} (h:RBx w W #[b0,b1,b2,b3,b4,b5]) (a0 a1 a2 a3 a4 a5:Value):RBx w (Ay W w.heap.size 0 [a0,a1,a2,a3,a4,a5]) #[a0,a1,a2,a3,a4,a5]:=
 ⟨Ap _ h.below (Nat.le_refl _),((((((h.blk.set_ 0 a0).set_ 1 a1).set_ 2 a2).set_ 3 a3).set_ 4 a4).set_ 5 a5)⟩
theorem P3.grown {w W W':World} {a:Array Value} {vb vc:Value} {R:Nat} (h:P3 w W a vb vc) (t:W.grownBy W' (some R)) (hR:w.heap.size+3<=R):P3 w W' a vb vc:=
 ⟨h.below.grown t h.below.size (fun r e=>by have:=Option.some.inj e;omega),h.blkA.grown t (fun e=>by have:=Option.some.inj e;omega),h.blkB.grown t (fun e=>by have:=Option.some.inj e;omega),h.blkC.grown t (fun e=>by have:=Option.some.inj e;omega)⟩
theorem P3.new (w:World):P3 w (((w.alloc (.cells Af 42)).alloc (.cells #[.int .i64 0] 3)).alloc (.cells #[.int .i64 0] 27)) Af (.int .i64 0) (.int .i64 0):=
 ⟨((Aa w _).alloc (by simp) _).alloc (by simp;omega) _,((Aj.new w _ _).alloc _).alloc _,by simpa using(Aj.new (w.alloc (.cells Af 42)) 3 #[.int .i64 0]).alloc (.cells #[.int .i64 0] 27),by simpa using Aj.new ((w.alloc (.cells Af 42)).alloc (.cells #[.int .i64 0] 3)) 27 #[.int .i64 0]⟩
end Go.Proofs.YtobmaegpfbheoaaGreatDoor
namespace Go.Proofs.YtobmaegpfbheoaaGreatDoor
def Wx (f:Val->Int×Mut):List Val->Int×List Mut
 | []=>(0, [])
 |v::r=>if(f v).1≠0 then((f v).1, [])else if(Wx f r).1≠0 then((Wx f r).1, [])else(0,(f v).2::(Wx f r).2)
end Go.Proofs.YtobmaegpfbheoaaGreatDoor
