/- Parts: Whether a value has anything that its kind does not name: the program's function and the reference's. No condition. -/
import Derived.Test.YtobmaegpfbheoaaGreatDoorProg
import Derived.Lib.Hide
import Derived.WalkKit
import Derived.Below
import Derived.BigQuiet
import Derived.Deep.QuietTactic
import Derived.WalkLawsBesides
import Derived.WalkSpells
import Derived.Lib.Strings
set_option maxHeartbeats 20000000
namespace Go.Proofs.YtobmaegpfbheoaaGreatDoor
open Go Go.RowKit
theorem tk1 {α:Type} {xs:List α} {i:Nat} (h:i<xs.toArray.size):xs.toArray[i]=xs[i]'(by simpa using h):=List.getElem_toArray h
theorem tk2 {α:Type} (a:α) (l:List α) (i:Nat) (h:i+1<(a::l).length):(a::l)[i+1]=l[i]'(by simpa using h):=List.getElem_cons_succ a l i h
theorem tk3 {α:Type} (a:α) (l:List α) (h:0<(a::l).length):(a::l)[0]=a:=List.getElem_cons_zero a l h
theorem tk4 {α:Type} (l:List α) (i:Nat) (a:α):l.toArray.setIfInBounds i a=(l.set i a).toArray:=List.setIfInBounds_toArray l i a
theorem tk5 {α:Type} {x:α} {xs:List α} {a:α}:(x::xs).set 0 a=a::xs:=rfl
theorem tk6 {α:Type} {x:α} {xs:List α} {i:Nat} {a:α}:(x::xs).set (i+1) a=x::xs.set i a:=rfl
theorem qz {p:Prop} (h:p):Hid p:=Lib.hid h
theorem hid2 {p0 p1:Prop} (x0:p0) (x1:p1):Hid p0/\Hid p1:=⟨Lib.hid x0,Lib.hid x1⟩
theorem hid3 {p0 p1 p2:Prop} (x0:p0) (x1:p1) (x2:p2):Hid p0/\Hid p1/\Hid p2:=⟨Lib.hid x0,Lib.hid x1,Lib.hid x2⟩
theorem hid4 {p0 p1 p2 p3:Prop} (x0:p0) (x1:p1) (x2:p2) (x3:p3):Hid p0/\Hid p1/\Hid p2/\Hid p3:=⟨Lib.hid x0,Lib.hid x1,Lib.hid x2,Lib.hid x3⟩
theorem hid5 {p0 p1 p2 p3 p4:Prop} (x0:p0) (x1:p1) (x2:p2) (x3:p3) (x4:p4):Hid p0/\Hid p1/\Hid p2/\Hid p3/\Hid p4:=⟨Lib.hid x0,Lib.hid x1,Lib.hid x2,Lib.hid x3,Lib.hid x4⟩
theorem hid6 {p0 p1 p2 p3 p4 p5:Prop} (x0:p0) (x1:p1) (x2:p2) (x3:p3) (x4:p4) (x5:p5):Hid p0/\Hid p1/\Hid p2/\Hid p3/\Hid p4/\Hid p5:=⟨Lib.hid x0,Lib.hid x1,Lib.hid x2,Lib.hid x3,Lib.hid x4,Lib.hid x5⟩
theorem hid7 {p0 p1 p2 p3 p4 p5 p6:Prop} (x0:p0) (x1:p1) (x2:p2) (x3:p3) (x4:p4) (x5:p5) (x6:p6):Hid p0/\Hid p1/\Hid p2/\Hid p3/\Hid p4/\Hid p5/\Hid p6:=⟨Lib.hid x0,Lib.hid x1,Lib.hid x2,Lib.hid x3,Lib.hid x4,Lib.hid x5,Lib.hid x6⟩
theorem hid8 {p0 p1 p2 p3 p4 p5 p6 p7:Prop} (x0:p0) (x1:p1) (x2:p2) (x3:p3) (x4:p4) (x5:p5) (x6:p6) (x7:p7):Hid p0/\Hid p1/\Hid p2/\Hid p3/\Hid p4/\Hid p5/\Hid p6/\Hid p7:=⟨Lib.hid x0,Lib.hid x1,Lib.hid x2,Lib.hid x3,Lib.hid x4,Lib.hid x5,Lib.hid x6,Lib.hid x7⟩
theorem hid9 {p0 p1 p2 p3 p4 p5 p6 p7 p8:Prop} (x0:p0) (x1:p1) (x2:p2) (x3:p3) (x4:p4) (x5:p5) (x6:p6) (x7:p7) (x8:p8):Hid p0/\Hid p1/\Hid p2/\Hid p3/\Hid p4/\Hid p5/\Hid p6/\Hid p7/\Hid p8:=⟨Lib.hid x0,Lib.hid x1,Lib.hid x2,Lib.hid x3,Lib.hid x4,Lib.hid x5,Lib.hid x6,Lib.hid x7,Lib.hid x8⟩
theorem hid10 {p0 p1 p2 p3 p4 p5 p6 p7 p8 p9:Prop} (x0:p0) (x1:p1) (x2:p2) (x3:p3) (x4:p4) (x5:p5) (x6:p6) (x7:p7) (x8:p8) (x9:p9):Hid p0/\Hid p1/\Hid p2/\Hid p3/\Hid p4/\Hid p5/\Hid p6/\Hid p7/\Hid p8/\Hid p9:=⟨Lib.hid x0,Lib.hid x1,Lib.hid x2,Lib.hid x3,Lib.hid x4,Lib.hid x5,Lib.hid x6,Lib.hid x7,Lib.hid x8,Lib.hid x9⟩
theorem hid11 {p0 p1 p2 p3 p4 p5 p6 p7 p8 p9 p10:Prop} (x0:p0) (x1:p1) (x2:p2) (x3:p3) (x4:p4) (x5:p5) (x6:p6) (x7:p7) (x8:p8) (x9:p9) (x10:p10):Hid p0/\Hid p1/\Hid p2/\Hid p3/\Hid p4/\Hid p5/\Hid p6/\Hid p7/\Hid p8/\Hid p9/\Hid p10:=⟨Lib.hid x0,Lib.hid x1,Lib.hid x2,Lib.hid x3,Lib.hid x4,Lib.hid x5,Lib.hid x6,Lib.hid x7,Lib.hid x8,Lib.hid x9,Lib.hid x10⟩
inductive Val where
 |mk (k:Int) (b:Bool) (n:Int) (t:ByteArray) (l:List Val) (o:List (ByteArray×Val))
abbrev Df (k:Int) (b:Bool) (n:Int) (t:ByteArray) (la:Option Addr) (ln lc:Nat) (oa:Option Addr) (on oc:Nat):List Value:=
 [.int .i64 k,.bool b,.int .i64 n,.string t,.slice la ln lc,.slice oa on oc]
mutual
def Ab (w:World) (B:Nat):Val->List Value->Prop
 | .mk k b n t l o,cs=> ∃la lc oa oc,cs=Df k b n t la l.length lc oa o.length oc/\
    (l= []\/ ∃g off,la=some ⟨g,off,none⟩/\g<B/\Aq w B l g off)/\
    (o= []\/ ∃g off,oa=some ⟨g,off,none⟩/\g<B/\As w B o g off)
def Aq (w:World) (B:Nat):List Val->Nat->Nat->Prop
 | [],_,_=>True
 |v::r,g,off=>(∃cs,Ab w B v cs/\ ∀j u,cs[j]? =some u->w.cell? ⟨g,off+j,none⟩=some u)/\Aq w B r g (off+6)
def As (w:World) (B:Nat):List (ByteArray×Val)->Nat->Nat->Prop
 | [],_,_=>True
 |p::r,g,off=>Hg w B p g off/\As w B r g (off+7)
def Hg (w:World) (B:Nat):ByteArray×Val->Nat->Nat->Prop
 |(key,v),g,off=>w.cell? ⟨g,off,none⟩=some (.string key)/\ ∃cs,Ab w B v cs/\ ∀j u,cs[j]? =some u->w.cell? ⟨g,off+1+j,none⟩=some u
end
mutual
def Val.bulk:Val->Nat
 | .mk _ _ _ t l o=>6+t.size+A0 l+Av o
def A0:List Val->Nat
 | []=>0
 |v::r=>v.bulk+A0 r
def Av:List (ByteArray×Val)->Nat
 | []=>0
 |p::r=>Ds p+Av r
def Ds:ByteArray×Val->Nat
 |(key,v)=>1+key.size+v.bulk
end
theorem Val.ind {p:Val->Prop} (h: ∀k b n t l o,(∀v ∈ l,p v)->(∀m ∈ o,p m.2)->p (.mk k b n t l o)): ∀v,p v:=by
 intro v;refine Val.rec (motive_1:=p) (motive_2:=fun l=> ∀v ∈ l,p v) (motive_3:=fun o=> ∀m ∈ o,p m.2) (motive_4:=fun m=>p m.2) ?_ ?_ ?_ ?_ ?_ ?_ v
 . intro k b n t l o hl ho;exact h k b n t l o hl ho
 . intro v hv
   cases hv
 . intro v r hv hr x hx;rcases List.mem_cons.1 hx with rfl|hx
   . exact hv
   . exact hr x hx
 . intro m hm
   cases hm
 . intro m r hm hr x hx;rcases List.mem_cons.1 hx with rfl|hx
   . exact hm
   . exact hr x hx
 . intro k v hv;exact hv
theorem Aq.of_keep {w w':World} {B:Nat} (hk: ∀p:Addr,p.block<B->w'.cell? p=w.cell? p):
 ∀(l:List Val),(∀v ∈ l,∀cs,Ab w B v cs->Ab w' B v cs)-> ∀g off,g<B->Aq w B l g off->Aq w' B l g off
 | [],_,_,_,_,_=>by simp[Aq]
 |v::r,ih,g,off,hg,h=>by
  simp only[Aq]at h ⊢;obtain⟨⟨cs,hv,hc⟩,hr⟩:=h;exact⟨⟨cs,ih v (by simp) cs hv,fun j u hu=>(hk _ hg).trans (hc j u hu)⟩,Aq.of_keep hk r (fun x hx=>ih x (by simp[hx])) g _ hg hr⟩
theorem As.of_keep {w w':World} {B:Nat} (hk: ∀p:Addr,p.block<B->w'.cell? p=w.cell? p):
 ∀(l:List (ByteArray×Val)),(∀m ∈ l,∀cs,Ab w B m.2 cs->Ab w' B m.2 cs)-> ∀g off,g<B->As w B l g off->As w' B l g off
 | [],_,_,_,_,_=>by simp[As]
 |(key,v)::r,ih,g,off,hg,h=>by
  simp only[As,Hg]at h ⊢;obtain⟨⟨h0,cs,hv,hc⟩,hr⟩:=h;exact⟨⟨(hk _ hg).trans h0,cs,ih (key,v) (by simp) cs hv,fun j u hu=>(hk _ hg).trans (hc j u hu)⟩,As.of_keep hk r (fun x hx=>ih x (by simp[hx])) g _ hg hr⟩
theorem Ab.keep {w w':World} {B:Nat} (hk: ∀p:Addr,p.block<B->w'.cell? p=w.cell? p): ∀(v:Val) cs,Ab w B v cs->Ab w' B v cs:=by
 refine Val.ind ?_;intro k b n t l o hl ho cs h;simp only[Ab]at h ⊢;obtain⟨la,lc,oa,oc,hcs,h1,h2⟩:=h;refine⟨la,lc,oa,oc,hcs, ?_, ?_⟩
 . rcases h1 with h1|⟨g,off,ha,hg,h1⟩
   . exact .inl h1
   . exact .inr ⟨g,off,ha,hg,Aq.of_keep hk l hl g off hg h1⟩
 . rcases h2 with h2|⟨g,off,ha,hg,h2⟩
   . exact .inl h2
   . exact .inr ⟨g,off,ha,hg,As.of_keep hk o ho g off hg h2⟩
theorem Ab.below {w w':World} {B:Nat} {v:Val} {cs:List Value} (h:Ab w B v cs) (hb:Below B w w'):Ab w' B v cs:=Ab.keep (fun _ hp=>hb.cell hp) v cs h
theorem Aq.keep {w w':World} {B:Nat} (hk: ∀p:Addr,p.block<B->w'.cell? p=w.cell? p) {l:List Val} {g off:Nat} (hg:g<B) (h:Aq w B l g off):Aq w' B l g off:=
 Aq.of_keep hk l (fun v _=>Ab.keep hk v) g off hg h
theorem As.keep {w w':World} {B:Nat} (hk: ∀p:Addr,p.block<B->w'.cell? p=w.cell? p) {l:List (ByteArray×Val)} {g off:Nat} (hg:g<B) (h:As w B l g off):As w' B l g off:=
 As.of_keep hk l (fun m _=>Ab.keep hk m.2) g off hg h
theorem Aq.below {w w':World} {B:Nat} {l:List Val} {g off:Nat} (hg:g<B) (h:Aq w B l g off) (hb:Below B w w'):Aq w' B l g off:=Aq.keep (fun _ hp=>hb.cell hp) hg h
theorem As.below {w w':World} {B:Nat} {l:List (ByteArray×Val)} {g off:Nat} (hg:g<B) (h:As w B l g off) (hb:Below B w w'):As w' B l g off:=As.keep (fun _ hp=>hb.cell hp) hg h
theorem Aq.of_more {w:World} {B B':Nat}: ∀(l:List Val),(∀v ∈ l,∀cs,Ab w B v cs->Ab w B' v cs)-> ∀g off,Aq w B l g off->Aq w B' l g off
 | [],_,_,_,_=>by simp[Aq]
 |v::r,ih,g,off,h=>by
  simp only[Aq]at h ⊢;obtain⟨⟨cs,hv,hc⟩,hr⟩:=h;exact⟨⟨cs,ih v (by simp) cs hv,hc⟩,Aq.of_more r (fun x hx=>ih x (by simp[hx])) g _ hr⟩
theorem As.of_more {w:World} {B B':Nat}: ∀(l:List (ByteArray×Val)),(∀m ∈ l,∀cs,Ab w B m.2 cs->Ab w B' m.2 cs)-> ∀g off,As w B l g off->As w B' l g off
 | [],_,_,_,_=>by simp[As]
 |(key,v)::r,ih,g,off,h=>by
  simp only[As,Hg]at h ⊢;obtain⟨⟨h0,cs,hv,hc⟩,hr⟩:=h;exact⟨⟨h0,cs,ih (key,v) (by simp) cs hv,hc⟩,As.of_more r (fun x hx=>ih x (by simp[hx])) g _ hr⟩
theorem Ab.more {w:World} {B B':Nat} (hB:B<=B'): ∀(v:Val) cs,Ab w B v cs->Ab w B' v cs:=by
 refine Val.ind ?_;intro k b n t l o hl ho cs h;simp only[Ab]at h ⊢;obtain⟨la,lc,oa,oc,hcs,h1,h2⟩:=h;refine⟨la,lc,oa,oc,hcs, ?_, ?_⟩
 . rcases h1 with h1|⟨g,off,ha,hg,h1⟩
   . exact .inl h1
   . exact .inr ⟨g,off,ha,by omega,Aq.of_more l hl g off h1⟩
 . rcases h2 with h2|⟨g,off,ha,hg,h2⟩
   . exact .inl h2
   . exact .inr ⟨g,off,ha,by omega,As.of_more o ho g off h2⟩
theorem Aq.at_ {w:World} {B:Nat}: ∀{l:List Val} {g off:Nat},Aq w B l g off-> ∀{i:Nat} {v:Val},l[i]? =some v->
 ∃cs,Ab w B v cs/\ ∀j u,cs[j]? =some u->w.cell? ⟨g,off+i*6+j,none⟩=some u
 | [],_,_,_,i,v,hi=>by simp at hi
 |x::r,g,off,h,0,v,hi=>by
  simp only[Aq]at h;obtain⟨h,_⟩:=h;simp at hi;subst hi;simpa using h
 |x::r,g,off,h,i+1,v,hi=>by
  simp only[Aq]at h;obtain⟨cs,hv,hc⟩:=Aq.at_ h.2 (i:=i) (v:=v) (by simpa using hi);exact⟨cs,hv,fun j u hu=>by rw[show off+(i+1)*6+j=off+6+i*6+j from by omega];exact hc j u hu⟩
theorem As.at_ {w:World} {B:Nat}: ∀{l:List (ByteArray×Val)} {g off:Nat},As w B l g off-> ∀{i:Nat} {m:ByteArray×Val},l[i]? =some m->
 w.cell? ⟨g,off+i*7,none⟩=some (.string m.1)/\ ∃cs,Ab w B m.2 cs/\ ∀j u,cs[j]? =some u->w.cell? ⟨g,off+i*7+1+j,none⟩=some u
 | [],_,_,_,i,v,hi=>by simp at hi
 |x::r,g,off,h,0,v,hi=>by
  simp only[As]at h;obtain⟨h,_⟩:=h;simp at hi;subst hi;obtain⟨key,v⟩:=x;simpa only[Hg,Nat.zero_mul,Nat.add_zero]using h
 |x::r,g,off,h,i+1,m,hi=>by
  simp only[As]at h;obtain⟨h0,cs,hv,hc⟩:=As.at_ h.2 (i:=i) (m:=m) (by simpa using hi);exact⟨by rw[show off+(i+1)*7=off+7+i*7 from by omega];exact h0,cs,hv,fun j u hu=>by rw[show off+(i+1)*7+1+j=off+7+i*7+1+j from by omega];exact hc j u hu⟩
theorem Aq.six {w:World} {B:Nat} {l:List Val} {g off:Nat} (h:Aq w B l g off) {i:Nat} {k:Int} {b:Bool} {n:Int} {t:ByteArray} {l':List Val} {o':List (ByteArray×Val)} (hi:l[i]? =some (.mk k b n t l' o')):
 ∃la lc oa oc,Ab w B (.mk k b n t l' o') (Df k b n t la l'.length lc oa o'.length oc)/\w.cell? ⟨g,off+i*6,none⟩=some (.int .i64 k)/\w.cell? ⟨g,off+i*6+1,none⟩=some (.bool b)/\
  w.cell? ⟨g,off+i*6+2,none⟩=some (.int .i64 n)/\w.cell? ⟨g,off+i*6+3,none⟩=some (.string t)/\w.cell? ⟨g,off+i*6+4,none⟩=some (.slice la l'.length lc)/\
  w.cell? ⟨g,off+i*6+5,none⟩=some (.slice oa o'.length oc):=by
 obtain⟨cs,hv,hc⟩:=h.at_ hi;have hv':=hv;simp only[Ab]at hv';obtain⟨la,lc,oa,oc,rfl,_,_⟩:=hv';exact⟨la,lc,oa,oc,hv,hc 0 _ rfl,hc 1 _ rfl,hc 2 _ rfl,hc 3 _ rfl,hc 4 _ rfl,hc 5 _ rfl⟩
theorem As.seven {w:World} {B:Nat} {l:List (ByteArray×Val)} {g off:Nat} (h:As w B l g off) {i:Nat} {key:ByteArray} {k:Int} {b:Bool} {n:Int} {t:ByteArray} {l':List Val} {o':List (ByteArray×Val)} (hi:l[i]? =some (key,.mk k b n t l' o')):
 ∃la lc oa oc,Ab w B (.mk k b n t l' o') (Df k b n t la l'.length lc oa o'.length oc)/\w.cell? ⟨g,off+i*7,none⟩=some (.string key)/\w.cell? ⟨g,off+i*7+1,none⟩=some (.int .i64 k)/\w.cell? ⟨g,off+i*7+2,none⟩=some (.bool b)/\
  w.cell? ⟨g,off+i*7+3,none⟩=some (.int .i64 n)/\w.cell? ⟨g,off+i*7+4,none⟩=some (.string t)/\w.cell? ⟨g,off+i*7+5,none⟩=some (.slice la l'.length lc)/\
  w.cell? ⟨g,off+i*7+6,none⟩=some (.slice oa o'.length oc):=by
 obtain⟨h0,cs,hv,hc⟩:=h.at_ hi;have hv':=hv;simp only[Ab]at hv';obtain⟨la,lc,oa,oc,rfl,_,_⟩:=hv';exact⟨la,lc,oa,oc,hv,h0,hc 0 _ rfl,hc 1 _ rfl,hc 2 _ rfl,hc 3 _ rfl,hc 4 _ rfl,hc 5 _ rfl⟩
theorem Ej {l:List Val} {v:Val} (h:v ∈ l):v.bulk<=A0 l:=by
 induction l with
 |nil=>cases h
 |cons x r ih=>
  simp only[A0];rcases List.mem_cons.1 h with rfl|h
  . omega
  . have:=ih h;omega
theorem E5 {l:List (ByteArray×Val)} {m:ByteArray×Val} (h:m ∈ l):1+m.1.size+m.2.bulk<=Av l:=by
 induction l with
 |nil=>cases h
 |cons x r ih=>
  obtain⟨k,v⟩:=x;simp only[Av,Ds];rcases List.mem_cons.1 h with rfl|h
  . simp only;omega
  . have:=ih h;omega
theorem Val.bulk_pos (v:Val):6<=v.bulk:=by
 obtain⟨k,b,n,t,l,o⟩:=v;simp only[Val.bulk];omega
theorem Dy (l:List Val):6*l.length<=A0 l:=by
 induction l with
 |nil=>simp[A0]
 |cons x r ih=>simp only[A0,List.length_cons];have:=x.bulk_pos;omega
theorem Do (l:List (ByteArray×Val)):7*l.length<=Av l:=by
 induction l with
 |nil=>simp[Av]
 |cons x r ih=>obtain⟨k,v⟩:=x;simp only[Av,Ds,List.length_cons];have:=v.bulk_pos;omega
mutual
def Jg:Val->Prop
 | .mk _ _ n _ l o=>(-9223372036854775808<=n/\n<=9223372036854775807)/\Oz l/\P2 o
def Oz:List Val->Prop
 | []=>True
 |v::r=>Jg v/\Oz r
def P2:List (ByteArray×Val)->Prop
 | []=>True
 |p::r=>inP p/\P2 r
def inP:ByteArray×Val->Prop
 |(_,v)=>Jg v
end
def Ec (k:Int) (b:Bool) (n:Int) (t:ByteArray) (ln on:Nat):Bool:=
 if k==1 then b||n != 0|| !t.toList.isEmpty||ln != 0||on != 0
 else if k==2 then n != 0|| !t.toList.isEmpty||ln != 0||on != 0
 else if k==3 then b|| !t.toList.isEmpty||ln != 0||on != 0
 else if k==4 then b||n != 0||ln != 0||on != 0
 else if k==5 then b||n != 0|| !t.toList.isEmpty||on != 0
 else if k==6 then b||n != 0|| !t.toList.isEmpty||ln != 0
 else true
theorem Xx (k:Int) (b:Bool) (n:Int) (t:ByteArray) (la oa:Option Addr) (ln lc on oc:Nat) (w:World):
 Calls Tryz.prog 149 #[.agg #[.int .i64 k,.bool b,.int .i64 n,.string t,.slice la ln lc,.slice oa on oc]] w fun e w'=>e=.returned (.bool (Ec k b n t ln on))/\Below w.heap.size w w':=by
 go_enter Tryz.func149,Tryz.ntmps149;go_wp2
 all_goals go_ret
 all_goals simp only[Ec, *]
 all_goals refine⟨by first|(simp_all;done)|(simp_all;omega)|(simp_all;rw[Bool.eq_iff_iff];simp[Nat.pos_iff_ne_zero]), ?_⟩
 all_goals exact Below.alloc (Below.refl _ _) (Nat.le_refl _) _
theorem Yi {t:ByteArray} (h: ¬t=ByteArray.empty):t.toList≠ []:=by
 intro e;rw[Lib.toList_data]at e;apply h;have:t.data= #[]:=by simpa using e
 exact ByteArray.ext this
theorem To {a b:Bool} (h:a=b):Ending.returned (.bool a)=.returned (.bool b):=by rw[h]
theorem Yz (n:Nat):((n:Int)==0)=(n==0):=by rw[Bool.eq_iff_iff];simp
theorem Ux (k:Int) (b:Bool) (n:Int) (t:ByteArray) (la oa:Option Addr) (ln lc on oc:Nat) (w:World):
 Calls Tryz.prog 209 #[.agg #[.int .i64 k,.bool b,.int .i64 n,.string t,.slice la ln lc,.slice oa on oc]] w fun e w'=>e=.returned (.bool (!Ec k b n t ln on))/\Below w.heap.size w w':=by
 rcases(by omega:k=1\/k=2\/k=3\/k=4\/k=5\/k=6\/k<1\/6<k)with rfl|rfl|rfl|rfl|rfl|rfl|h|h
 all_goals
  go_enter Tryz.func209,Tryz.ntmps209;go_wp2
  all_goals go_ret
  all_goals refine⟨To ?_,Below.alloc (Below.refl _ _) (Nat.le_refl _) _⟩
  all_goals simp only[Ec,Yz]
 all_goals first|(simp_all[Yi];done)|(subst_vars;simp_all[bne];done)|(rw[if_neg (by simp;omega),if_neg (by simp;omega),if_neg (by simp;omega),if_neg (by simp;omega),if_neg (by simp;omega),if_neg (by simp;omega)];rfl)|skip
end Go.Proofs.YtobmaegpfbheoaaGreatDoor
