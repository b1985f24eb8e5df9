/- Parts: A range over an iterator that yields a known list, by a body that always goes on: the law that the walks use. No condition. -/
import Derived.Test.YtjgfchcldhmjcaaGreatDoorProg
import Derived.Lib.Hide
import Derived.WalkKit
import Derived.Below
import Derived.RangeFuncNested
import Derived.RangeFuncBound
import Derived.RangeFuncCalls
import Derived.RangeFuncLeaves
import Derived.OwnWalkIn
import Derived.TacticsInMore
namespace Go.Proofs.YtjgfchcldhmjcaaGreatDoor
open Go Go.RowKit
theorem tk1 {α:Type} {xs:List α} {i:Nat} (h:i<xs.toArray.size):xs.toArray[i]=xs[i]'(by simpa using h):=List.getElem_toArray h
theorem tk2 {α:Type} (a:α) (l:List α) (i:Nat) (h:i+1<(a::l).length):(a::l)[i+1]=l[i]'(by simpa using h):=List.getElem_cons_succ a l i h
theorem tk3 {α:Type} (a:α) (l:List α) (h:0<(a::l).length):(a::l)[0]=a:=List.getElem_cons_zero a l h
theorem tk4 {α:Type} (l:List α) (i:Nat) (a:α):l.toArray.setIfInBounds i a=(l.set i a).toArray:=List.setIfInBounds_toArray l i a
theorem tk5 {α:Type} {x:α} {xs:List α} {a:α}:(x::xs).set 0 a=a::xs:=rfl
theorem tk6 {α:Type} {x:α} {xs:List α} {i:Nat} {a:α}:(x::xs).set (i+1) a=x::xs.set i a:=rfl
theorem qz {p:Prop} (h:p):Hid p:=Lib.hid h
theorem hid2 {p0 p1:Prop} (x0:p0) (x1:p1):Hid p0/\Hid p1:=⟨Lib.hid x0,Lib.hid x1⟩
theorem hid3 {p0 p1 p2:Prop} (x0:p0) (x1:p1) (x2:p2):Hid p0/\Hid p1/\Hid p2:=⟨Lib.hid x0,Lib.hid x1,Lib.hid x2⟩
theorem hid4 {p0 p1 p2 p3:Prop} (x0:p0) (x1:p1) (x2:p2) (x3:p3):Hid p0/\Hid p1/\Hid p2/\Hid p3:=⟨Lib.hid x0,Lib.hid x1,Lib.hid x2,Lib.hid x3⟩
theorem hid5 {p0 p1 p2 p3 p4:Prop} (x0:p0) (x1:p1) (x2:p2) (x3:p3) (x4:p4):Hid p0/\Hid p1/\Hid p2/\Hid p3/\Hid p4:=⟨Lib.hid x0,Lib.hid x1,Lib.hid x2,Lib.hid x3,Lib.hid x4⟩
theorem hid6 {p0 p1 p2 p3 p4 p5:Prop} (x0:p0) (x1:p1) (x2:p2) (x3:p3) (x4:p4) (x5:p5):Hid p0/\Hid p1/\Hid p2/\Hid p3/\Hid p4/\Hid p5:=⟨Lib.hid x0,Lib.hid x1,Lib.hid x2,Lib.hid x3,Lib.hid x4,Lib.hid x5⟩
theorem hid7 {p0 p1 p2 p3 p4 p5 p6:Prop} (x0:p0) (x1:p1) (x2:p2) (x3:p3) (x4:p4) (x5:p5) (x6:p6):Hid p0/\Hid p1/\Hid p2/\Hid p3/\Hid p4/\Hid p5/\Hid p6:=⟨Lib.hid x0,Lib.hid x1,Lib.hid x2,Lib.hid x3,Lib.hid x4,Lib.hid x5,Lib.hid x6⟩
theorem hid8 {p0 p1 p2 p3 p4 p5 p6 p7:Prop} (x0:p0) (x1:p1) (x2:p2) (x3:p3) (x4:p4) (x5:p5) (x6:p6) (x7:p7):Hid p0/\Hid p1/\Hid p2/\Hid p3/\Hid p4/\Hid p5/\Hid p6/\Hid p7:=⟨Lib.hid x0,Lib.hid x1,Lib.hid x2,Lib.hid x3,Lib.hid x4,Lib.hid x5,Lib.hid x6,Lib.hid x7⟩
theorem hid9 {p0 p1 p2 p3 p4 p5 p6 p7 p8:Prop} (x0:p0) (x1:p1) (x2:p2) (x3:p3) (x4:p4) (x5:p5) (x6:p6) (x7:p7) (x8:p8):Hid p0/\Hid p1/\Hid p2/\Hid p3/\Hid p4/\Hid p5/\Hid p6/\Hid p7/\Hid p8:=⟨Lib.hid x0,Lib.hid x1,Lib.hid x2,Lib.hid x3,Lib.hid x4,Lib.hid x5,Lib.hid x6,Lib.hid x7,Lib.hid x8⟩
theorem hid10 {p0 p1 p2 p3 p4 p5 p6 p7 p8 p9:Prop} (x0:p0) (x1:p1) (x2:p2) (x3:p3) (x4:p4) (x5:p5) (x6:p6) (x7:p7) (x8:p8) (x9:p9):Hid p0/\Hid p1/\Hid p2/\Hid p3/\Hid p4/\Hid p5/\Hid p6/\Hid p7/\Hid p8/\Hid p9:=⟨Lib.hid x0,Lib.hid x1,Lib.hid x2,Lib.hid x3,Lib.hid x4,Lib.hid x5,Lib.hid x6,Lib.hid x7,Lib.hid x8,Lib.hid x9⟩
theorem hid11 {p0 p1 p2 p3 p4 p5 p6 p7 p8 p9 p10:Prop} (x0:p0) (x1:p1) (x2:p2) (x3:p3) (x4:p4) (x5:p5) (x6:p6) (x7:p7) (x8:p8) (x9:p9) (x10:p10):Hid p0/\Hid p1/\Hid p2/\Hid p3/\Hid p4/\Hid p5/\Hid p6/\Hid p7/\Hid p8/\Hid p9/\Hid p10:=⟨Lib.hid x0,Lib.hid x1,Lib.hid x2,Lib.hid x3,Lib.hid x4,Lib.hid x5,Lib.hid x6,Lib.hid x7,Lib.hid x8,Lib.hid x9,Lib.hid x10⟩
theorem hid16 {p0 p1 p2 p3 p4 p5 p6 p7 p8 p9 p10 p11 p12 p13 p14 p15:Prop} (x0:p0) (x1:p1) (x2:p2) (x3:p3) (x4:p4) (x5:p5) (x6:p6) (x7:p7) (x8:p8) (x9:p9) (x10:p10) (x11:p11) (x12:p12) (x13:p13) (x14:p14) (x15:p15):Hid p0/\Hid p1/\Hid p2/\Hid p3/\Hid p4/\Hid p5/\Hid p6/\Hid p7/\Hid p8/\Hid p9/\Hid p10/\Hid p11/\Hid p12/\Hid p13/\Hid p14/\Hid p15:=⟨Lib.hid x0,Lib.hid x1,Lib.hid x2,Lib.hid x3,Lib.hid x4,Lib.hid x5,Lib.hid x6,Lib.hid x7,Lib.hid x8,Lib.hid x9,Lib.hid x10,Lib.hid x11,Lib.hid x12,Lib.hid x13,Lib.hid x14,Lib.hid x15⟩
inductive Val where
 |mk (k:Int) (b:Bool) (n:Int) (t:ByteArray) (l:List Val) (o:List (ByteArray×Val))
abbrev Eb (k:Int) (b:Bool) (n:Int) (t:ByteArray) (la:Option Addr) (ln lc:Nat) (oa:Option Addr) (on oc:Nat):List Value:=
 [.int .i64 k,.bool b,.int .i64 n,.string t,.slice la ln lc,.slice oa on oc]
mutual
def Ab (w:World) (B:Nat):Val->List Value->Prop
 | .mk k b n t l o,cs=> ∃la lc oa oc,cs=Eb k b n t la l.length lc oa o.length oc/\
    (l= []\/ ∃g off,la=some ⟨g,off,none⟩/\g<B/\Aq w B l g off)/\
    (o= []\/ ∃g off,oa=some ⟨g,off,none⟩/\g<B/\An w B o g off)
def Aq (w:World) (B:Nat):List Val->Nat->Nat->Prop
 | [],_,_=>True
 |v::r,g,off=>(∃cs,Ab w B v cs/\ ∀j u,cs[j]? =some u->w.cell? ⟨g,off+j,none⟩=some u)/\Aq w B r g (off+6)
def An (w:World) (B:Nat):List (ByteArray×Val)->Nat->Nat->Prop
 | [],_,_=>True
 |p::r,g,off=>Ku w B p g off/\An w B r g (off+7)
def Ku (w:World) (B:Nat):ByteArray×Val->Nat->Nat->Prop
 |(key,v),g,off=>w.cell? ⟨g,off,none⟩=some (.string key)/\ ∃cs,Ab w B v cs/\ ∀j u,cs[j]? =some u->w.cell? ⟨g,off+1+j,none⟩=some u
end
mutual
def Val.bulk:Val->Nat
 | .mk _ _ _ t l o=>6+t.size+A5 l+Af o
def A5:List Val->Nat
 | []=>0
 |v::r=>v.bulk+A5 r
def Af:List (ByteArray×Val)->Nat
 | []=>0
 |p::r=>E7 p+Af r
def E7:ByteArray×Val->Nat
 |(key,v)=>1+key.size+v.bulk
end
theorem Val.ind {p:Val->Prop} (h: ∀k b n t l o,(∀v ∈ l,p v)->(∀m ∈ o,p m.2)->p (.mk k b n t l o)): ∀v,p v:=by
 intro v;refine Val.rec (motive_1:=p) (motive_2:=fun l=> ∀v ∈ l,p v) (motive_3:=fun o=> ∀m ∈ o,p m.2) (motive_4:=fun m=>p m.2) ?_ ?_ ?_ ?_ ?_ ?_ v
 . intro k b n t l o f g;exact h k b n t l o f g
 . intro v c
   cases c
 . intro v r c e x a;rcases List.mem_cons.1 a with rfl|a
   . exact c
   . exact e x a
 . intro m d
   cases d
 . intro m r d e x a;rcases List.mem_cons.1 a with rfl|a
   . exact d
   . exact e x a
 . intro k v c;exact c
theorem Aq.of_keep {w w':World} {B:Nat} (b: ∀p:Addr,p.block<B->w'.cell? p=w.cell? p):
 ∀(l:List Val),(∀v ∈ l,∀cs,Ab w B v cs->Ab w' B v cs)-> ∀g a,g<B->Aq w B l g a->Aq w' B l g a
 | [],_,_,_,_,_=>by simp[Aq]
 |v::r,ih,g,a,hg,h=>by
  simp only[Aq]at h ⊢;obtain⟨⟨cs,f,c⟩,d⟩:=h;exact⟨⟨cs,ih v (by simp) cs f,fun j u e=>(b _ hg).trans (c j u e)⟩,Aq.of_keep b r (fun x i=>ih x (by simp[i])) g _ hg d⟩
theorem An.of_keep {w w':World} {B:Nat} (b: ∀p:Addr,p.block<B->w'.cell? p=w.cell? p):
 ∀(l:List (ByteArray×Val)),(∀m ∈ l,∀cs,Ab w B m.2 cs->Ab w' B m.2 cs)-> ∀g a,g<B->An w B l g a->An w' B l g a
 | [],_,_,_,_,_=>by simp[An]
 |(key,v)::r,ih,g,a,hg,h=>by
  simp only[An,Ku]at h ⊢;obtain⟨⟨h0,cs,f,c⟩,d⟩:=h;exact⟨⟨(b _ hg).trans h0,cs,ih (key,v) (by simp) cs f,fun j u e=>(b _ hg).trans (c j u e)⟩,An.of_keep b r (fun x i=>ih x (by simp[i])) g _ hg d⟩
theorem Ab.keep {w w':World} {B:Nat} (j: ∀p:Addr,p.block<B->w'.cell? p=w.cell? p): ∀(v:Val) cs,Ab w B v cs->Ab w' B v cs:=by
 refine Val.ind ?_;intro k b n t l o m q cs h;simp only[Ab]at h ⊢;obtain⟨r,s,u,oc,i,c,d⟩:=h;refine⟨r,s,u,oc,i, ?_, ?_⟩
 . rcases c with c|⟨g,a,f,e,c⟩
   . exact .inl c
   . exact .inr ⟨g,a,f,e,Aq.of_keep j l m g a e c⟩
 . rcases d with d|⟨g,a,f,e,d⟩
   . exact .inl d
   . exact .inr ⟨g,a,f,e,An.of_keep j o q g a e d⟩
theorem Ab.below {w w':World} {B:Nat} {v:Val} {cs:List Value} (h:Ab w B v cs) (a:Below B w w'):Ab w' B v cs:=Ab.keep (fun _ b=>a.cell b) v cs h
theorem Aq.keep {w w':World} {B:Nat} (b: ∀p:Addr,p.block<B->w'.cell? p=w.cell? p) {l:List Val} {g a:Nat} (c:g<B) (h:Aq w B l g a):Aq w' B l g a:=
 Aq.of_keep b l (fun v _=>Ab.keep b v) g a c h
theorem An.keep {w w':World} {B:Nat} (b: ∀p:Addr,p.block<B->w'.cell? p=w.cell? p) {l:List (ByteArray×Val)} {g a:Nat} (c:g<B) (h:An w B l g a):An w' B l g a:=
 An.of_keep b l (fun m _=>Ab.keep b m.2) g a c h
theorem Aq.below {w w':World} {B:Nat} {l:List Val} {g a:Nat} (c:g<B) (h:Aq w B l g a) (b:Below B w w'):Aq w' B l g a:=Aq.keep (fun _ d=>b.cell d) c h
theorem An.below {w w':World} {B:Nat} {l:List (ByteArray×Val)} {g a:Nat} (c:g<B) (h:An w B l g a) (b:Below B w w'):An w' B l g a:=An.keep (fun _ d=>b.cell d) c h
theorem Aq.of_more {w:World} {B B':Nat}: ∀(l:List Val),(∀v ∈ l,∀cs,Ab w B v cs->Ab w B' v cs)-> ∀g a,Aq w B l g a->Aq w B' l g a
 | [],_,_,_,_=>by simp[Aq]
 |v::r,ih,g,a,h=>by
  simp only[Aq]at h ⊢;obtain⟨⟨cs,d,b⟩,c⟩:=h;exact⟨⟨cs,ih v (by simp) cs d,b⟩,Aq.of_more r (fun x e=>ih x (by simp[e])) g _ c⟩
theorem An.of_more {w:World} {B B':Nat}: ∀(l:List (ByteArray×Val)),(∀m ∈ l,∀cs,Ab w B m.2 cs->Ab w B' m.2 cs)-> ∀g a,An w B l g a->An w B' l g a
 | [],_,_,_,_=>by simp[An]
 |(key,v)::r,ih,g,a,h=>by
  simp only[An,Ku]at h ⊢;obtain⟨⟨h0,cs,d,b⟩,c⟩:=h;exact⟨⟨h0,cs,ih (key,v) (by simp) cs d,b⟩,An.of_more r (fun x e=>ih x (by simp[e])) g _ c⟩
theorem Ab.more {w:World} {B B':Nat} (s:B<=B'): ∀(v:Val) cs,Ab w B v cs->Ab w B' v cs:=by
 refine Val.ind ?_;intro k b n t l o j m cs h;simp only[Ab]at h ⊢;obtain⟨p,q,r,oc,f,c,d⟩:=h;refine⟨p,q,r,oc,f, ?_, ?_⟩
 . rcases c with c|⟨g,a,e,i,c⟩
   . exact .inl c
   . exact .inr ⟨g,a,e,by omega,Aq.of_more l j g a c⟩
 . rcases d with d|⟨g,a,e,i,d⟩
   . exact .inl d
   . exact .inr ⟨g,a,e,by omega,An.of_more o m g a d⟩
theorem Aq.at_ {w:World} {B:Nat}: ∀{l:List Val} {g off:Nat},Aq w B l g off-> ∀{i:Nat} {v:Val},l[i]? =some v->
 ∃cs,Ab w B v cs/\ ∀j u,cs[j]? =some u->w.cell? ⟨g,off+i*6+j,none⟩=some u
 | [],_,_,_,i,v,hi=>by simp at hi
 |x::r,g,off,h,0,v,hi=>by
  simp only[Aq]at h;obtain⟨h,_⟩:=h;simp at hi;subst hi;simpa using h
 |x::r,g,off,h,i+1,v,hi=>by
  simp only[Aq]at h;obtain⟨cs,c,a⟩:=Aq.at_ h.2 (i:=i) (v:=v) (by simpa using hi);exact⟨cs,c,fun j u b=>by rw[show off+(i+1)*6+j=off+6+i*6+j from by omega];exact a j u b⟩
theorem An.at_ {w:World} {B:Nat}: ∀{l:List (ByteArray×Val)} {g off:Nat},An w B l g off-> ∀{i:Nat} {m:ByteArray×Val},l[i]? =some m->
 w.cell? ⟨g,off+i*7,none⟩=some (.string m.1)/\ ∃cs,Ab w B m.2 cs/\ ∀j u,cs[j]? =some u->w.cell? ⟨g,off+i*7+1+j,none⟩=some u
 | [],_,_,_,i,v,hi=>by simp at hi
 |x::r,g,off,h,0,v,hi=>by
  simp only[An]at h;obtain⟨h,_⟩:=h;simp at hi;subst hi;obtain⟨key,v⟩:=x;simpa only[Ku,Nat.zero_mul,Nat.add_zero]using h
 |x::r,g,off,h,i+1,m,hi=>by
  simp only[An]at h;obtain⟨h0,cs,c,a⟩:=An.at_ h.2 (i:=i) (m:=m) (by simpa using hi);exact⟨by rw[show off+(i+1)*7=off+7+i*7 from by omega];exact h0,cs,c,fun j u b=>by rw[show off+(i+1)*7+1+j=off+7+i*7+1+j from by omega];exact a j u b⟩
theorem Aq.six {w:World} {B:Nat} {l:List Val} {g a:Nat} (h:Aq w B l g a) {i:Nat} {k:Int} {b:Bool} {n:Int} {t:ByteArray} {l':List Val} {o':List (ByteArray×Val)} (o:l[i]? =some (.mk k b n t l' o')):
 ∃e f j oc,Ab w B (.mk k b n t l' o') (Eb k b n t e l'.length f j o'.length oc)/\w.cell? ⟨g,a+i*6,none⟩=some (.int .i64 k)/\w.cell? ⟨g,a+i*6+1,none⟩=some (.bool b)/\
  w.cell? ⟨g,a+i*6+2,none⟩=some (.int .i64 n)/\w.cell? ⟨g,a+i*6+3,none⟩=some (.string t)/\w.cell? ⟨g,a+i*6+4,none⟩=some (.slice e l'.length f)/\
  w.cell? ⟨g,a+i*6+5,none⟩=some (.slice j o'.length oc):=by
 obtain⟨cs,m,c⟩:=h.at_ o;have d:=m;simp only[Ab]at d;obtain⟨e,f,j,oc,rfl,_,_⟩:=d;exact⟨e,f,j,oc,m,c 0 _ rfl,c 1 _ rfl,c 2 _ rfl,c 3 _ rfl,c 4 _ rfl,c 5 _ rfl⟩
theorem An.seven {w:World} {B:Nat} {l:List (ByteArray×Val)} {g a:Nat} (h:An w B l g a) {i:Nat} {key:ByteArray} {k:Int} {b:Bool} {n:Int} {t:ByteArray} {l':List Val} {o':List (ByteArray×Val)} (o:l[i]? =some (key,.mk k b n t l' o')):
 ∃e f j oc,Ab w B (.mk k b n t l' o') (Eb k b n t e l'.length f j o'.length oc)/\w.cell? ⟨g,a+i*7,none⟩=some (.string key)/\w.cell? ⟨g,a+i*7+1,none⟩=some (.int .i64 k)/\w.cell? ⟨g,a+i*7+2,none⟩=some (.bool b)/\
  w.cell? ⟨g,a+i*7+3,none⟩=some (.int .i64 n)/\w.cell? ⟨g,a+i*7+4,none⟩=some (.string t)/\w.cell? ⟨g,a+i*7+5,none⟩=some (.slice e l'.length f)/\
  w.cell? ⟨g,a+i*7+6,none⟩=some (.slice j o'.length oc):=by
 obtain⟨h0,cs,m,c⟩:=h.at_ o;have d:=m;simp only[Ab]at d;obtain⟨e,f,j,oc,rfl,_,_⟩:=d;exact⟨e,f,j,oc,m,h0,c 0 _ rfl,c 1 _ rfl,c 2 _ rfl,c 3 _ rfl,c 4 _ rfl,c 5 _ rfl⟩
theorem Dp {l:List Val} {v:Val} (h:v ∈ l):v.bulk<=A5 l:=by
 induction l with
 |nil=>cases h
 |cons x r ih=>
  simp only[A5];rcases List.mem_cons.1 h with rfl|h
  . omega
  . have:=ih h;omega
theorem C4 {l:List (ByteArray×Val)} {m:ByteArray×Val} (h:m ∈ l):1+m.1.size+m.2.bulk<=Af l:=by
 induction l with
 |nil=>cases h
 |cons x r ih=>
  obtain⟨k,v⟩:=x;simp only[Af,E7];rcases List.mem_cons.1 h with rfl|h
  . simp only;omega
  . have:=ih h;omega
theorem Val.bulk_pos (v:Val):6<=v.bulk:=by
 obtain⟨k,b,n,t,l,o⟩:=v;simp only[Val.bulk];omega
theorem C9 (l:List Val):6*l.length<=A5 l:=by
 induction l with
 |nil=>simp[A5]
 |cons x r ih=>simp only[A5,List.length_cons];have:=x.bulk_pos;omega
theorem B5 (l:List (ByteArray×Val)):7*l.length<=Af l:=by
 induction l with
 |nil=>simp[Af]
 |cons x r ih=>obtain⟨k,v⟩:=x;simp only[Af,E7,List.length_cons];have:=v.bulk_pos;omega
mutual
def I9:Val->Prop
 | .mk _ _ n _ l o=>(-9223372036854775808<=n/\n<=9223372036854775807)/\Na l/\I6 o
def Na:List Val->Prop
 | []=>True
 |v::r=>I9 v/\Na r
def I6:List (ByteArray×Val)->Prop
 | []=>True
 |p::r=>inP p/\I6 r
def inP:ByteArray×Val->Prop
 |(_,v)=>I9 v
end
def Ahp {α:Type} (P:Program) (gf:Nat) (lb:Array Value) (encs:α->Array Value) (xs:List α) (N:World->Prop):Prop:=
 ∀(n l:Nat) (J:List α->World->Prop) (W:World),(∀s A B,J s A->Below A.heap.size A B->J s B)->(∀s A,J s A->N A)->
  (∀pre x rest A,xs=pre++x::rest->J pre A->YieldAt Fence.wide n P l (encs x) A fun e B=>e=.returned (.bool true)/\J (pre++ [x]) B)->
  J [] W->CallsIn Fence.wide (n+1) P gf (#[.func (.yield l) #[] #[]]++lb) W fun e B=>(∃v,e=.returned v)/\J xs B
def P7 (I:World->Prop) (d:Nat) (W:World):Exit->Act->World->Prop
 | .normal,_,W'=>W'.heap[d]? =W.heap[d]? /\W'.heap[d+1]? =W.heap[d+1]? /\I W'
 |_,_,_=>False
theorem Yu {m:Type} {P:Program} {g:Operand} {G:Array Tmp} {assign body:Code} {Q:Exit->Act->World->Prop} {a:Act} {w:World} {n:Nat}
 {gf:Nat} {lb:Array Value} (hg:a.eval g=.func (.func gf) #[] lb) (eg: ∀args w,(callFunc gf args).run P w=.ok (.enter gf args) w)
 {c:m->Array Value} {xs:List m} {N:World->Prop} (S:Ahp P gf lb c xs N) (X: ∀x,(c x).size=G.size)
 (I:List m->World->Prop) (hIn: ∀s A B,I s A->Below A.heap.size A B->I s B)
 (hIp: ∀s A k o o',I s A->A.heap[k]? =some o->o.isCells=false->(k=w.heap.size\/k=w.heap.size+1)->I s (A.putObj k o'))
 (hIb: ∀s A,I s A->N A) (h0:I [] w) (j:m->Act)
 (d: ∀(l:Nat) (x:m) (W:World) (K:Act->World->Prop),K (j x) W->
   assign.wpIn (Fence.wide.inRound l) n P (Exit.then K (fun _ _ _=>False)) {tmps:=(G.zip (c x)).foldl (fun t (p,v)=>t.setIfInBounds p v) a.tmps,defers:= []} W)
 (q: ∀(l:Nat) (pre:List m) (x:m) (rest:List m) (W:World),xs=pre++x::rest->I pre W->(∃ds,W.heap[w.heap.size]? =some (.deferred ds))->(∃r,W.heap[w.heap.size+1]? =some (.loop r))->
   body.wpIn (Fence.wide.inRound l) n P (P7 (I (pre++ [x])) w.heap.size W) (j x) W)
 (u: ∀(W:World),I xs W->W.heap[w.heap.size]? =some (.deferred (some []))->Q .normal {a with defers:={target:=.collected w.heap.size,args:= #[]}::a.defers} W):
 (Code.rangeFunc g G assign body).wpIn Fence.wide (n+1+1) P Q a w:=by
 refine wpIn_rangeFunc ?_;intro fn aa;have Y:Fence.wide.round=none:=rfl;rw[Y];obtain⟨rec,b⟩: ∃rec:LoopState->Option Code->Loop,rec=fun st pe=>{state:=st,pending:=pe,fn,tmps:=a.tmps,params:=G,assign,body,defers:=w.heap.size}:=⟨_,rfl⟩;obtain⟨f,i⟩: ∃f,(w.alloc (.deferred (some []))).alloc (.loop (rec .ready none))=f:=⟨_,rfl⟩;have L:f.heap[w.heap.size+1]? =some (.loop (rec .ready none)):=by
  rw[<-i];have:=World.alloc_heap_new (w.alloc (.deferred (some []))) (.loop (rec .ready none));rwa [World.size_alloc]at this
 have J:f.heap[w.heap.size]? =some (.deferred (some [])):=by
  rw[<-i];exact(Below.heap_alloc _ _ _ (by simp)).trans (World.alloc_heap_new w _)
 have H:I [] f:=by
  rw[<-i];exact hIn _ _ _ h0 (((Below.refl _ w).alloc (Nat.le_refl _) _).alloc (by simp) _)
 refine⟨w.heap.size+1, [{target:=.collected w.heap.size,args:= #[]}],f,{target:=.fn (.func gf) lb,args:= #[.func (.yield (w.heap.size+1)) #[] #[]]},f,gf,
  #[.func (.yield (w.heap.size+1)) #[] #[]]++lb,f, ?_, ?_, ?_, ?_,fun h=>by simp[Fence.wide]at h, ?_⟩
 . rw[<-i,b];exact run_enterLoop_outer _ _ _ _ _
 . simp only[resolve,hg];simp[go_sem]
 . intro f' _;trivial
 . simp[invoke,go_sem,eg]
 . refine(S n (w.heap.size+1)
    (fun pre W=>I pre W/\W.heap[w.heap.size+1]? =some (.loop (rec .ready none))/\W.heap[w.heap.size]? =some (.deferred (some [])))
    f (fun s A B C M=>⟨hIn s A B C.1 M,(M.block _ (Array.getElem?_eq_some_iff.1 C.2.1).1).trans C.2.1,(M.block _ (Array.getElem?_eq_some_iff.1 C.2.2).1).trans C.2.2⟩)
    (fun s A C=>hIb s A C.1) ?_ ⟨H,L,J⟩).mono ?_
   ·
    rintro pre x rest W hx ⟨O,y,T⟩;have V:w.heap.size+1<W.heap.size:=(Array.getElem?_eq_some_iff.1 y).1;have hy:=run_yield (P:=P) (args:=c x) y (by rw[b];exact X x);rw[b]at hy;refine⟨fn,_,assign,body,hy,roundIn_of_wpIn trivial (d _ x W _ ⟨_,run_beginRound y (by rw[b]), ?_⟩)⟩;have F:(W.putObj (w.heap.size+1) (.loop {rec .ready none with state:=.busy})).heap[w.heap.size+1]? =some (.loop {rec .ready none with state:=.busy}):=World.putObj_heap_same V;have E:(W.putObj (w.heap.size+1) (.loop {rec .ready none with state:=.busy})).heap[w.heap.size]? =some (.deferred (some [])):=(World.putObj_heap_other (by omega)).trans T;refine wpIn_mono (q _ pre x rest _ hx (hIp _ _ _ _ _ O y rfl (.inr rfl)) ⟨_,E⟩ ⟨_,F⟩) ?_;rintro e a3 W3 D
    cases e with
    |normal=>
     obtain⟨h1,h2,R⟩:=D;have z:=h2.trans F;have U:=h1.trans E;have Z:=run_endRound (P:=P) none z;rw[b]at Z;refine⟨_,_,Z,rfl,hIp _ _ _ _ _ R z rfl (.inr rfl), ?_, ?_⟩
     . rw[World.putObj_heap_same (Array.getElem?_eq_some_iff.1 z).1,b];rfl
     . exact(World.putObj_heap_other (by omega)).trans U
    |ret=>exact D.elim
    |exit id=>exact D.elim
    |goto t=>exact D.elim
    |panic ch=>exact D.elim
    |outgrown=>exact D.elim
   ·
    rintro e W2 ⟨⟨v,rfl⟩,O,y,T⟩;exact⟨none,_,by have:=run_endLoop (P:=P) y (by rw[b];simp);rw[b]at this;exact this,u _ (hIp _ _ _ _ _ O y rfl (.inr rfl)) ((World.putObj_heap_other (by omega)).trans T)⟩
end Go.Proofs.YtjgfchcldhmjcaaGreatDoor
