/- Parts: A range over an iterator that yields a known list, each of it in one of several ways (what way, q, is known in the round alone), by a body that always goes on. No condition. -/
import Derived.Test.YtackmnbpfbaemaaGreatDoorProg
import Derived.Lib.Hide
import Derived.WalkKit
import Derived.Below
import Derived.BigQuiet
import Derived.Deep.QuietTactic
import Derived.WalkLawsBesides
import Derived.WalkSpells
import Derived.Lib.Strings
import Derived.Test.YtackmnbpfbaemaaGreatDoorZShelf
import Derived.IntWalk
import Derived.Lib.SmallJoins
import Derived.RangeFuncNested
import Derived.RangeFuncBound
import Derived.RangeFuncCalls
import Derived.RangeFuncLeaves
import Derived.OwnWalkIn
import Derived.TacticsInMore
import Derived.Lib.OthersKept
import Derived.Lib.FrozenHead2
import Derived.Shelf.Strings.BuilderK
set_option maxHeartbeats 20000000
namespace Go.Proofs.YtackmnbpfbaemaaGreatDoor
open Go Go.RowKit
theorem tk1 {α:Type} {xs:List α} {i:Nat} (h:i<xs.toArray.size):xs.toArray[i]=xs[i]'(by simpa using h):=List.getElem_toArray h
theorem tk2 {α:Type} (a:α) (l:List α) (i:Nat) (h:i+1<(a::l).length):(a::l)[i+1]=l[i]'(by simpa using h):=List.getElem_cons_succ a l i h
theorem tk3 {α:Type} (a:α) (l:List α) (h:0<(a::l).length):(a::l)[0]=a:=List.getElem_cons_zero a l h
theorem tk4 {α:Type} (l:List α) (i:Nat) (a:α):l.toArray.setIfInBounds i a=(l.set i a).toArray:=List.setIfInBounds_toArray l i a
theorem tk5 {α:Type} {x:α} {xs:List α} {a:α}:(x::xs).set 0 a=a::xs:=rfl
theorem tk6 {α:Type} {x:α} {xs:List α} {i:Nat} {a:α}:(x::xs).set (i+1) a=x::xs.set i a:=rfl
theorem hid2 {p0 p1:Prop} (x0:p0) (x1:p1):Hid p0/\Hid p1:=⟨Lib.hid x0,Lib.hid x1⟩
theorem hid3 {p0 p1 p2:Prop} (x0:p0) (x1:p1) (x2:p2):Hid p0/\Hid p1/\Hid p2:=⟨Lib.hid x0,Lib.hid x1,Lib.hid x2⟩
theorem hid4 {p0 p1 p2 p3:Prop} (x0:p0) (x1:p1) (x2:p2) (x3:p3):Hid p0/\Hid p1/\Hid p2/\Hid p3:=⟨Lib.hid x0,Lib.hid x1,Lib.hid x2,Lib.hid x3⟩
theorem hid5 {p0 p1 p2 p3 p4:Prop} (x0:p0) (x1:p1) (x2:p2) (x3:p3) (x4:p4):Hid p0/\Hid p1/\Hid p2/\Hid p3/\Hid p4:=⟨Lib.hid x0,Lib.hid x1,Lib.hid x2,Lib.hid x3,Lib.hid x4⟩
theorem hid6 {p0 p1 p2 p3 p4 p5:Prop} (x0:p0) (x1:p1) (x2:p2) (x3:p3) (x4:p4) (x5:p5):Hid p0/\Hid p1/\Hid p2/\Hid p3/\Hid p4/\Hid p5:=⟨Lib.hid x0,Lib.hid x1,Lib.hid x2,Lib.hid x3,Lib.hid x4,Lib.hid x5⟩
theorem hid7 {p0 p1 p2 p3 p4 p5 p6:Prop} (x0:p0) (x1:p1) (x2:p2) (x3:p3) (x4:p4) (x5:p5) (x6:p6):Hid p0/\Hid p1/\Hid p2/\Hid p3/\Hid p4/\Hid p5/\Hid p6:=⟨Lib.hid x0,Lib.hid x1,Lib.hid x2,Lib.hid x3,Lib.hid x4,Lib.hid x5,Lib.hid x6⟩
theorem hid8 {p0 p1 p2 p3 p4 p5 p6 p7:Prop} (x0:p0) (x1:p1) (x2:p2) (x3:p3) (x4:p4) (x5:p5) (x6:p6) (x7:p7):Hid p0/\Hid p1/\Hid p2/\Hid p3/\Hid p4/\Hid p5/\Hid p6/\Hid p7:=⟨Lib.hid x0,Lib.hid x1,Lib.hid x2,Lib.hid x3,Lib.hid x4,Lib.hid x5,Lib.hid x6,Lib.hid x7⟩
theorem hid9 {p0 p1 p2 p3 p4 p5 p6 p7 p8:Prop} (x0:p0) (x1:p1) (x2:p2) (x3:p3) (x4:p4) (x5:p5) (x6:p6) (x7:p7) (x8:p8):Hid p0/\Hid p1/\Hid p2/\Hid p3/\Hid p4/\Hid p5/\Hid p6/\Hid p7/\Hid p8:=⟨Lib.hid x0,Lib.hid x1,Lib.hid x2,Lib.hid x3,Lib.hid x4,Lib.hid x5,Lib.hid x6,Lib.hid x7,Lib.hid x8⟩
theorem hid10 {p0 p1 p2 p3 p4 p5 p6 p7 p8 p9:Prop} (x0:p0) (x1:p1) (x2:p2) (x3:p3) (x4:p4) (x5:p5) (x6:p6) (x7:p7) (x8:p8) (x9:p9):Hid p0/\Hid p1/\Hid p2/\Hid p3/\Hid p4/\Hid p5/\Hid p6/\Hid p7/\Hid p8/\Hid p9:=⟨Lib.hid x0,Lib.hid x1,Lib.hid x2,Lib.hid x3,Lib.hid x4,Lib.hid x5,Lib.hid x6,Lib.hid x7,Lib.hid x8,Lib.hid x9⟩
theorem hid11 {p0 p1 p2 p3 p4 p5 p6 p7 p8 p9 p10:Prop} (x0:p0) (x1:p1) (x2:p2) (x3:p3) (x4:p4) (x5:p5) (x6:p6) (x7:p7) (x8:p8) (x9:p9) (x10:p10):Hid p0/\Hid p1/\Hid p2/\Hid p3/\Hid p4/\Hid p5/\Hid p6/\Hid p7/\Hid p8/\Hid p9/\Hid p10:=⟨Lib.hid x0,Lib.hid x1,Lib.hid x2,Lib.hid x3,Lib.hid x4,Lib.hid x5,Lib.hid x6,Lib.hid x7,Lib.hid x8,Lib.hid x9,Lib.hid x10⟩
theorem hid12 {p0 p1 p2 p3 p4 p5 p6 p7 p8 p9 p10 p11:Prop} (x0:p0) (x1:p1) (x2:p2) (x3:p3) (x4:p4) (x5:p5) (x6:p6) (x7:p7) (x8:p8) (x9:p9) (x10:p10) (x11:p11):Hid p0/\Hid p1/\Hid p2/\Hid p3/\Hid p4/\Hid p5/\Hid p6/\Hid p7/\Hid p8/\Hid p9/\Hid p10/\Hid p11:=⟨Lib.hid x0,Lib.hid x1,Lib.hid x2,Lib.hid x3,Lib.hid x4,Lib.hid x5,Lib.hid x6,Lib.hid x7,Lib.hid x8,Lib.hid x9,Lib.hid x10,Lib.hid x11⟩
theorem hid14 {p0 p1 p2 p3 p4 p5 p6 p7 p8 p9 p10 p11 p12 p13:Prop} (x0:p0) (x1:p1) (x2:p2) (x3:p3) (x4:p4) (x5:p5) (x6:p6) (x7:p7) (x8:p8) (x9:p9) (x10:p10) (x11:p11) (x12:p12) (x13:p13):Hid p0/\Hid p1/\Hid p2/\Hid p3/\Hid p4/\Hid p5/\Hid p6/\Hid p7/\Hid p8/\Hid p9/\Hid p10/\Hid p11/\Hid p12/\Hid p13:=⟨Lib.hid x0,Lib.hid x1,Lib.hid x2,Lib.hid x3,Lib.hid x4,Lib.hid x5,Lib.hid x6,Lib.hid x7,Lib.hid x8,Lib.hid x9,Lib.hid x10,Lib.hid x11,Lib.hid x12,Lib.hid x13⟩
theorem hid16 {p0 p1 p2 p3 p4 p5 p6 p7 p8 p9 p10 p11 p12 p13 p14 p15:Prop} (x0:p0) (x1:p1) (x2:p2) (x3:p3) (x4:p4) (x5:p5) (x6:p6) (x7:p7) (x8:p8) (x9:p9) (x10:p10) (x11:p11) (x12:p12) (x13:p13) (x14:p14) (x15:p15):Hid p0/\Hid p1/\Hid p2/\Hid p3/\Hid p4/\Hid p5/\Hid p6/\Hid p7/\Hid p8/\Hid p9/\Hid p10/\Hid p11/\Hid p12/\Hid p13/\Hid p14/\Hid p15:=⟨Lib.hid x0,Lib.hid x1,Lib.hid x2,Lib.hid x3,Lib.hid x4,Lib.hid x5,Lib.hid x6,Lib.hid x7,Lib.hid x8,Lib.hid x9,Lib.hid x10,Lib.hid x11,Lib.hid x12,Lib.hid x13,Lib.hid x14,Lib.hid x15⟩
inductive Val where
 |mk (k:Int) (b:Bool) (n:Int) (t:ByteArray) (l:List Val) (o:List (ByteArray×Val))
abbrev Eo (k:Int) (b:Bool) (n:Int) (t:ByteArray) (la:Option Addr) (ln lc:Nat) (oa:Option Addr) (on oc:Nat):List Value:=
 [.int .i64 k,.bool b,.int .i64 n,.string t,.slice la ln lc,.slice oa on oc]
mutual
def Ac (w:World) (B:Nat):Val->List Value->Prop
 | .mk k b n t l o,cs=> ∃la lc oa oc,cs=Eo k b n t la l.length lc oa o.length oc/\
    (l= []\/ ∃g off,la=some ⟨g,off,none⟩/\g<B/\Az w B l g off)/\
    (o= []\/ ∃g off,oa=some ⟨g,off,none⟩/\g<B/\Au w B o g off)
def Az (w:World) (B:Nat):List Val->Nat->Nat->Prop
 | [],_,_=>True
 |v::r,g,off=>(∃cs,Ac w B v cs/\ ∀j u,cs[j]? =some u->w.cell? ⟨g,off+j,none⟩=some u)/\Az w B r g (off+6)
def Au (w:World) (B:Nat):List (ByteArray×Val)->Nat->Nat->Prop
 | [],_,_=>True
 |p::r,g,off=>N7 w B p g off/\Au w B r g (off+7)
def N7 (w:World) (B:Nat):ByteArray×Val->Nat->Nat->Prop
 |(key,v),g,off=>w.cell? ⟨g,off,none⟩=some (.string key)/\ ∃cs,Ac w B v cs/\ ∀j u,cs[j]? =some u->w.cell? ⟨g,off+1+j,none⟩=some u
end
mutual
def Val.bulk:Val->Nat
 | .mk _ _ _ t l o=>6+t.size+Bc l+Al o
def Bc:List Val->Nat
 | []=>0
 |v::r=>v.bulk+Bc r
def Al:List (ByteArray×Val)->Nat
 | []=>0
 |p::r=>Ec p+Al r
def Ec:ByteArray×Val->Nat
 |(key,v)=>1+key.size+v.bulk
end
theorem Val.ind {p:Val->Prop} (h: ∀k b n t l o,(∀v ∈ l,p v)->(∀m ∈ o,p m.2)->p (.mk k b n t l o)): ∀v,p v:=by
 intro v;refine Val.rec (motive_1:=p) (motive_2:=fun l=> ∀v ∈ l,p v) (motive_3:=fun o=> ∀m ∈ o,p m.2) (motive_4:=fun m=>p m.2) ?_ ?_ ?_ ?_ ?_ ?_ v
 . intro k b n t l o hl ho;exact h k b n t l o hl ho
 . intro v hv
   cases hv
 . intro v r hv hr x hx;rcases List.mem_cons.1 hx with rfl|hx
   . exact hv
   . exact hr x hx
 . intro m hm
   cases hm
 . intro m r hm hr x hx;rcases List.mem_cons.1 hx with rfl|hx
   . exact hm
   . exact hr x hx
 . intro k v hv;exact hv
theorem Az.of_keep {w w':World} {B:Nat} (hk: ∀p:Addr,p.block<B->w'.cell? p=w.cell? p):
 ∀(l:List Val),(∀v ∈ l,∀cs,Ac w B v cs->Ac w' B v cs)-> ∀g off,g<B->Az w B l g off->Az w' B l g off
 | [],_,_,_,_,_=>by simp[Az]
 |v::r,ih,g,off,hg,h=>by
  simp only[Az]at h ⊢;obtain⟨⟨cs,hv,hc⟩,hr⟩:=h;exact⟨⟨cs,ih v (by simp) cs hv,fun j u hu=>(hk _ hg).trans (hc j u hu)⟩,Az.of_keep hk r (fun x hx=>ih x (by simp[hx])) g _ hg hr⟩
theorem Au.of_keep {w w':World} {B:Nat} (hk: ∀p:Addr,p.block<B->w'.cell? p=w.cell? p):
 ∀(l:List (ByteArray×Val)),(∀m ∈ l,∀cs,Ac w B m.2 cs->Ac w' B m.2 cs)-> ∀g off,g<B->Au w B l g off->Au w' B l g off
 | [],_,_,_,_,_=>by simp[Au]
 |(key,v)::r,ih,g,off,hg,h=>by
  simp only[Au,N7]at h ⊢;obtain⟨⟨h0,cs,hv,hc⟩,hr⟩:=h;exact⟨⟨(hk _ hg).trans h0,cs,ih (key,v) (by simp) cs hv,fun j u hu=>(hk _ hg).trans (hc j u hu)⟩,Au.of_keep hk r (fun x hx=>ih x (by simp[hx])) g _ hg hr⟩
theorem Ac.keep {w w':World} {B:Nat} (hk: ∀p:Addr,p.block<B->w'.cell? p=w.cell? p): ∀(v:Val) cs,Ac w B v cs->Ac w' B v cs:=by
 refine Val.ind ?_;intro k b n t l o hl ho cs h;simp only[Ac]at h ⊢;obtain⟨la,lc,oa,oc,hcs,h1,h2⟩:=h;refine⟨la,lc,oa,oc,hcs, ?_, ?_⟩
 . rcases h1 with h1|⟨g,off,ha,hg,h1⟩
   . exact .inl h1
   . exact .inr ⟨g,off,ha,hg,Az.of_keep hk l hl g off hg h1⟩
 . rcases h2 with h2|⟨g,off,ha,hg,h2⟩
   . exact .inl h2
   . exact .inr ⟨g,off,ha,hg,Au.of_keep hk o ho g off hg h2⟩
theorem Ac.below {w w':World} {B:Nat} {v:Val} {cs:List Value} (h:Ac w B v cs) (hb:Below B w w'):Ac w' B v cs:=Ac.keep (fun _ hp=>hb.cell hp) v cs h
theorem Az.keep {w w':World} {B:Nat} (hk: ∀p:Addr,p.block<B->w'.cell? p=w.cell? p) {l:List Val} {g off:Nat} (hg:g<B) (h:Az w B l g off):Az w' B l g off:=
 Az.of_keep hk l (fun v _=>Ac.keep hk v) g off hg h
theorem Au.keep {w w':World} {B:Nat} (hk: ∀p:Addr,p.block<B->w'.cell? p=w.cell? p) {l:List (ByteArray×Val)} {g off:Nat} (hg:g<B) (h:Au w B l g off):Au w' B l g off:=
 Au.of_keep hk l (fun m _=>Ac.keep hk m.2) g off hg h
theorem Az.below {w w':World} {B:Nat} {l:List Val} {g off:Nat} (hg:g<B) (h:Az w B l g off) (hb:Below B w w'):Az w' B l g off:=Az.keep (fun _ hp=>hb.cell hp) hg h
theorem Au.below {w w':World} {B:Nat} {l:List (ByteArray×Val)} {g off:Nat} (hg:g<B) (h:Au w B l g off) (hb:Below B w w'):Au w' B l g off:=Au.keep (fun _ hp=>hb.cell hp) hg h
theorem Az.of_more {w:World} {B B':Nat}: ∀(l:List Val),(∀v ∈ l,∀cs,Ac w B v cs->Ac w B' v cs)-> ∀g off,Az w B l g off->Az w B' l g off
 | [],_,_,_,_=>by simp[Az]
 |v::r,ih,g,off,h=>by
  simp only[Az]at h ⊢;obtain⟨⟨cs,hv,hc⟩,hr⟩:=h;exact⟨⟨cs,ih v (by simp) cs hv,hc⟩,Az.of_more r (fun x hx=>ih x (by simp[hx])) g _ hr⟩
theorem Au.of_more {w:World} {B B':Nat}: ∀(l:List (ByteArray×Val)),(∀m ∈ l,∀cs,Ac w B m.2 cs->Ac w B' m.2 cs)-> ∀g off,Au w B l g off->Au w B' l g off
 | [],_,_,_,_=>by simp[Au]
 |(key,v)::r,ih,g,off,h=>by
  simp only[Au,N7]at h ⊢;obtain⟨⟨h0,cs,hv,hc⟩,hr⟩:=h;exact⟨⟨h0,cs,ih (key,v) (by simp) cs hv,hc⟩,Au.of_more r (fun x hx=>ih x (by simp[hx])) g _ hr⟩
theorem Ac.more {w:World} {B B':Nat} (hB:B<=B'): ∀(v:Val) cs,Ac w B v cs->Ac w B' v cs:=by
 refine Val.ind ?_;intro k b n t l o hl ho cs h;simp only[Ac]at h ⊢;obtain⟨la,lc,oa,oc,hcs,h1,h2⟩:=h;refine⟨la,lc,oa,oc,hcs, ?_, ?_⟩
 . rcases h1 with h1|⟨g,off,ha,hg,h1⟩
   . exact .inl h1
   . exact .inr ⟨g,off,ha,by omega,Az.of_more l hl g off h1⟩
 . rcases h2 with h2|⟨g,off,ha,hg,h2⟩
   . exact .inl h2
   . exact .inr ⟨g,off,ha,by omega,Au.of_more o ho g off h2⟩
theorem Az.at_ {w:World} {B:Nat}: ∀{l:List Val} {g off:Nat},Az w B l g off-> ∀{i:Nat} {v:Val},l[i]? =some v->
 ∃cs,Ac w B v cs/\ ∀j u,cs[j]? =some u->w.cell? ⟨g,off+i*6+j,none⟩=some u
 | [],_,_,_,i,v,hi=>by simp at hi
 |x::r,g,off,h,0,v,hi=>by
  simp only[Az]at h;obtain⟨h,_⟩:=h;simp at hi;subst hi;simpa using h
 |x::r,g,off,h,i+1,v,hi=>by
  simp only[Az]at h;obtain⟨cs,hv,hc⟩:=Az.at_ h.2 (i:=i) (v:=v) (by simpa using hi);exact⟨cs,hv,fun j u hu=>by rw[show off+(i+1)*6+j=off+6+i*6+j from by omega];exact hc j u hu⟩
theorem Au.at_ {w:World} {B:Nat}: ∀{l:List (ByteArray×Val)} {g off:Nat},Au w B l g off-> ∀{i:Nat} {m:ByteArray×Val},l[i]? =some m->
 w.cell? ⟨g,off+i*7,none⟩=some (.string m.1)/\ ∃cs,Ac w B m.2 cs/\ ∀j u,cs[j]? =some u->w.cell? ⟨g,off+i*7+1+j,none⟩=some u
 | [],_,_,_,i,v,hi=>by simp at hi
 |x::r,g,off,h,0,v,hi=>by
  simp only[Au]at h;obtain⟨h,_⟩:=h;simp at hi;subst hi;obtain⟨key,v⟩:=x;simpa only[N7,Nat.zero_mul,Nat.add_zero]using h
 |x::r,g,off,h,i+1,m,hi=>by
  simp only[Au]at h;obtain⟨h0,cs,hv,hc⟩:=Au.at_ h.2 (i:=i) (m:=m) (by simpa using hi);exact⟨by rw[show off+(i+1)*7=off+7+i*7 from by omega];exact h0,cs,hv,fun j u hu=>by rw[show off+(i+1)*7+1+j=off+7+i*7+1+j from by omega];exact hc j u hu⟩
theorem Az.six {w:World} {B:Nat} {l:List Val} {g off:Nat} (h:Az w B l g off) {i:Nat} {k:Int} {b:Bool} {n:Int} {t:ByteArray} {l':List Val} {o':List (ByteArray×Val)} (hi:l[i]? =some (.mk k b n t l' o')):
 ∃la lc oa oc,Ac w B (.mk k b n t l' o') (Eo k b n t la l'.length lc oa o'.length oc)/\w.cell? ⟨g,off+i*6,none⟩=some (.int .i64 k)/\w.cell? ⟨g,off+i*6+1,none⟩=some (.bool b)/\
  w.cell? ⟨g,off+i*6+2,none⟩=some (.int .i64 n)/\w.cell? ⟨g,off+i*6+3,none⟩=some (.string t)/\w.cell? ⟨g,off+i*6+4,none⟩=some (.slice la l'.length lc)/\
  w.cell? ⟨g,off+i*6+5,none⟩=some (.slice oa o'.length oc):=by
 obtain⟨cs,hv,hc⟩:=h.at_ hi;have hv':=hv;simp only[Ac]at hv';obtain⟨la,lc,oa,oc,rfl,_,_⟩:=hv';exact⟨la,lc,oa,oc,hv,hc 0 _ rfl,hc 1 _ rfl,hc 2 _ rfl,hc 3 _ rfl,hc 4 _ rfl,hc 5 _ rfl⟩
theorem Au.seven {w:World} {B:Nat} {l:List (ByteArray×Val)} {g off:Nat} (h:Au w B l g off) {i:Nat} {key:ByteArray} {k:Int} {b:Bool} {n:Int} {t:ByteArray} {l':List Val} {o':List (ByteArray×Val)} (hi:l[i]? =some (key,.mk k b n t l' o')):
 ∃la lc oa oc,Ac w B (.mk k b n t l' o') (Eo k b n t la l'.length lc oa o'.length oc)/\w.cell? ⟨g,off+i*7,none⟩=some (.string key)/\w.cell? ⟨g,off+i*7+1,none⟩=some (.int .i64 k)/\w.cell? ⟨g,off+i*7+2,none⟩=some (.bool b)/\
  w.cell? ⟨g,off+i*7+3,none⟩=some (.int .i64 n)/\w.cell? ⟨g,off+i*7+4,none⟩=some (.string t)/\w.cell? ⟨g,off+i*7+5,none⟩=some (.slice la l'.length lc)/\
  w.cell? ⟨g,off+i*7+6,none⟩=some (.slice oa o'.length oc):=by
 obtain⟨h0,cs,hv,hc⟩:=h.at_ hi;have hv':=hv;simp only[Ac]at hv';obtain⟨la,lc,oa,oc,rfl,_,_⟩:=hv';exact⟨la,lc,oa,oc,hv,h0,hc 0 _ rfl,hc 1 _ rfl,hc 2 _ rfl,hc 3 _ rfl,hc 4 _ rfl,hc 5 _ rfl⟩
theorem Eg {l:List Val} {v:Val} (h:v ∈ l):v.bulk<=Bc l:=by
 induction l with
 |nil=>cases h
 |cons x r ih=>
  simp only[Bc];rcases List.mem_cons.1 h with rfl|h
  . omega
  . have:=ih h;omega
theorem C9 {l:List (ByteArray×Val)} {m:ByteArray×Val} (h:m ∈ l):1+m.1.size+m.2.bulk<=Al l:=by
 induction l with
 |nil=>cases h
 |cons x r ih=>
  obtain⟨k,v⟩:=x;simp only[Al,Ec];rcases List.mem_cons.1 h with rfl|h
  . simp only;omega
  . have:=ih h;omega
theorem Val.bulk_pos (v:Val):6<=v.bulk:=by
 obtain⟨k,b,n,t,l,o⟩:=v;simp only[Val.bulk];omega
theorem D3 (l:List Val):6*l.length<=Bc l:=by
 induction l with
 |nil=>simp[Bc]
 |cons x r ih=>simp only[Bc,List.length_cons];have:=x.bulk_pos;omega
theorem Cg (l:List (ByteArray×Val)):7*l.length<=Al l:=by
 induction l with
 |nil=>simp[Al]
 |cons x r ih=>obtain⟨k,v⟩:=x;simp only[Al,Ec,List.length_cons];have:=v.bulk_pos;omega
mutual
def Ga:Val->Prop
 | .mk _ _ n _ l o=>(-9223372036854775808<=n/\n<=9223372036854775807)/\Oq l/\Jj o
def Oq:List Val->Prop
 | []=>True
 |v::r=>Ga v/\Oq r
def Jj:List (ByteArray×Val)->Prop
 | []=>True
 |p::r=>inP p/\Jj r
def inP:ByteArray×Val->Prop
 |(_,v)=>Ga v
end
def Et (k:Int) (b:Bool) (n:Int) (t:ByteArray) (ln on:Nat):Bool:=
 if k==1 then b||n != 0|| !t.toList.isEmpty||ln != 0||on != 0
 else if k==2 then n != 0|| !t.toList.isEmpty||ln != 0||on != 0
 else if k==3 then b|| !t.toList.isEmpty||ln != 0||on != 0
 else if k==4 then b||n != 0||ln != 0||on != 0
 else if k==5 then b||n != 0|| !t.toList.isEmpty||on != 0
 else if k==6 then b||n != 0|| !t.toList.isEmpty||ln != 0
 else true
theorem Ahi (k:Int) (b:Bool) (n:Int) (t:ByteArray) (la oa:Option Addr) (ln lc on oc:Nat) (w:World):
 Calls Tryz.prog 158 #[.agg #[.int .i64 k,.bool b,.int .i64 n,.string t,.slice la ln lc,.slice oa on oc]] w fun e w'=>e=.returned (.bool (Et k b n t ln on))/\Below w.heap.size w w':=by
 go_enter Tryz.func158,Tryz.ntmps158;go_wp2
 all_goals go_ret
 all_goals simp only[Et, *]
 all_goals refine⟨by first|(simp_all;done)|(simp_all;omega)|(simp_all;rw[Bool.eq_iff_iff];simp[Nat.pos_iff_ne_zero]), ?_⟩
 all_goals exact Below.alloc (Below.refl _ _) (Nat.le_refl _) _
theorem Ah4 {t:ByteArray} (h: ¬t=ByteArray.empty):t.toList≠ []:=by
 intro e;rw[Lib.toList_data]at e;apply h;have:t.data= #[]:=by simpa using e
 exact ByteArray.ext this
theorem Abo {a b:Bool} (h:a=b):Ending.returned (.bool a)=.returned (.bool b):=by rw[h]
theorem Aiv (n:Nat):((n:Int)==0)=(n==0):=by rw[Bool.eq_iff_iff];simp
theorem Acr (k:Int) (b:Bool) (n:Int) (t:ByteArray) (la oa:Option Addr) (ln lc on oc:Nat) (w:World):
 Calls Tryz.prog 137 #[.agg #[.int .i64 k,.bool b,.int .i64 n,.string t,.slice la ln lc,.slice oa on oc]] w fun e w'=>e=.returned (.bool (!Et k b n t ln on))/\Below w.heap.size w w':=by
 rcases(by omega:k=1\/k=2\/k=3\/k=4\/k=5\/k=6\/k<1\/6<k)with rfl|rfl|rfl|rfl|rfl|rfl|h|h
 all_goals
  go_enter Tryz.func137,Tryz.ntmps137;go_wp2
  all_goals go_ret
  all_goals refine⟨Abo ?_,Below.alloc (Below.refl _ _) (Nat.le_refl _) _⟩
  all_goals simp only[Et,Aiv]
 all_goals first|(simp_all[Ah4];done)|(subst_vars;simp_all[bne];done)|(rw[if_neg (by simp;omega),if_neg (by simp;omega),if_neg (by simp;omega),if_neg (by simp;omega),if_neg (by simp;omega),if_neg (by simp;omega)];rfl)|skip
def Cf (w:World):Prop:=
 5<=w.heap.size/\Lib.Utf8Tabs 1 2 w/\Lib.TabIs Tryz.prog w "internal/strconv.uint64pow10" .u64 Lib.pow10Tab
def A8 (s:ByteArray):Bool:=Lib.validD s.data.toList
theorem Ux (s:ByteArray) (w:World) (hs:s.size<=9223372036854775807) (hT:Cf w):
 Calls Tryz.prog 159 #[.string s] w fun e w'=>e=.returned (.bool (A8 s))/\Below w.heap.size w w':=by
 have cV:=Tryz.utf8_ValidString s w hs hT.2.1;unfold A8;generalize Lib.validD s.data.toList=V at cV ⊢;go_enter Tryz.func159,Tryz.ntmps159;go_wp2_with (go_at_call 187;refine cV.mono ?_;rintro e w' ⟨rfl,hb⟩);go_ret;exact⟨rfl,hb⟩
def U3 (a b:ByteArray):Bool:=Op.bytesLess a.toList b.toList||a.toList==b.toList
mutual
def Ay:Val->Int->Int
 | .mk k b n t l o,d=>
   if Et k b n t l.length o.length then 9 else if 64<d then 5 else if A8 t then(if Dq l (d+1)=0 then Df o none (d+1)else Dq l (d+1))else 3
def Dq:List Val->Int->Int
 | [],_=>0
 |v::r,d=>if Ay v d=0 then Dq r d else Ay v d
def Df:List (ByteArray×Val)->Option ByteArray->Int->Int
 | [],_,_=>0
 |p::r,last,d=>if Ot p last d=0 then Df r (some p.1) d else Ot p last d
def Ot:ByteArray×Val->Option ByteArray->Int->Int
 |(key,v),last,d=>if A8 key then(match last with|none=>Ay v d|some q=>if U3 key q then 8 else Ay v d)else 3
end
theorem Eu {k:Int} {b:Bool} {n:Int} {t:ByteArray} {la oa:Option Addr} {ln lc on oc:Nat} {B:Bool} (h:Et k b n t ln on=B) (w:World):
 Calls Tryz.prog 158 #[.agg #[.int .i64 k,.bool b,.int .i64 n,.string t,.slice la ln lc,.slice oa on oc]] w fun e w'=>e=.returned (.bool B)/\Below w.heap.size w w':=by
 subst h;exact Ahi _ _ _ _ _ _ _ _ _ _ _
theorem Cf.below {w w':World} (h:Cf w) (hb:Below w.heap.size w w'):Cf w':=by
 obtain⟨h5,⟨h1,h2⟩,h3⟩:=h;refine⟨Nat.le_trans h5 hb.size,⟨fun c hc=> ?_,fun i hi=>⟨?_, ?_⟩⟩,Go.Joins.tab_stays (g:=3) (by kernel_rfl) h3 hb (Nat.le_refl _)⟩
 . exact(hb.cell (p:=⟨1,c,none⟩) (by show 1<_;omega)).trans (h1 c hc)
 . exact(hb.cell (p:=⟨2,2*i,none⟩) (by show 2<_;omega)).trans (h2 i hi).1
 . exact(hb.cell (p:=⟨2,2*i+1,none⟩) (by show 2<_;omega)).trans (h2 i hi).2
theorem Ft {W w1:World} (hb:Below W.heap.size W w1):(∀b o,b<W.heap.size->w1.cell? ⟨b,o,none⟩=W.cell? ⟨b,o,none⟩)/\(∀b o,b<W.heap.size->w1.frozen? ⟨b,o,none⟩=W.frozen? ⟨b,o,none⟩):=
 ⟨fun b o h=>hb.cell (p:=⟨b,o,none⟩) h,fun b o h=>hb.frozen (p:=⟨b,o,none⟩) h⟩
theorem C3 {α:Type} {l:List α} {k:Nat} {v:α} (h:l[k]? =some v):l.drop k=v::l.drop (k+1):=by
 obtain⟨hlt,rfl⟩:=List.getElem?_eq_some_iff.1 h;exact List.drop_eq_getElem_cons hlt
theorem Bi {B:Nat} {a w:World} (h:Below B a w) (n:Nat):Below B a (w.drewN n):=⟨h.os,h.tape,h.output,h.size,h.block⟩
def Amz (v:Val):Prop:= ∀(cs:List Value) (d:Int) (w:World),Cf w->Ac w w.heap.size v cs->v.bulk<=1000000000->0<=d->d<=65->
    Calls Tryz.prog 105 #[.agg cs.toArray,.int .i64 d] w fun e w'=>e=.returned (.int .i64 (Ay v d))/\Below w.heap.size w w'
theorem Aa0 (b:Bool) (n:Int) (t:ByteArray) (l:List Val) (la oa:Option Addr) (lc oc:Nat) (d:Int) (w:World) (hT:Cf w) (g off:Nat) (hla:l= []\/(la=some ⟨g,off,none⟩/\g<w.heap.size/\Az w w.heap.size l g off))
 (hb:Bc l<=1000000000) (h0:0<=d) (h64:d<=64) (IH: ∀v ∈ l,Amz v) (hodd:Et 5 b n t l.length 0=false):
 Calls Tryz.prog 105 #[.agg #[.int .i64 5,.bool b,.int .i64 n,.string t,.slice la l.length lc,.slice oa 0 oc],.int .i64 d] w fun e w'=>e=.returned (.int .i64 (Dq l (d+1)))/\Below w.heap.size w w':=by
 have hlen:l.length<=1000000000:=by have:=D3 l;omega
 go_enter Tryz.func105,Tryz.ntmps105;go_wp2_with (go_at_call 158;refine(Eu hodd _).mono ?_;rintro e w1 ⟨rfl,hb1⟩;obtain⟨hc1,hf1⟩:=Ft hb1;have hz1:=hb1.size;simp only[World.size_alloc]at hz1);have hbw1:Below w.heap.size w w1:=((Below.refl _ _).alloc (Nat.le_refl _) _).trans (hb1.mono (by simp));have H:Hid (Dq (l.drop 0) (d+1)=Dq l (d+1)):=by rw[List.drop_zero];exact rfl
 clear hb1 hodd hc1 hf1 hz1;go_loopw [30] (fun i wr=> ∃k:Nat,k<=l.length/\i=.int .i64 k/\Hid (Dq (l.drop k) (d+1)=Dq l (d+1))/\Below w.heap.size w wr) (fun i _=>l.length - (intOf i).toNat)
 case atStart=>exact⟨0,Nat.zero_le _,rfl,H,hbw1⟩
 case round=>
  obtain⟨k,hk,rfl,hm,hbw⟩:=hrel;clear H hbw1;by_cases hlt:k<l.length
  . obtain⟨rfl,hg,hL⟩:la=some ⟨g,off,none⟩/\g<w.heap.size/\Az w w.heap.size l g off:=by
     rcases hla with rfl|h
     . simp at hlt
     . exact h
    obtain⟨v,hv⟩: ∃v,l[k]? =some v:=⟨_,List.getElem?_eq_getElem hlt⟩;have hdrop:l.drop k=v::l.drop (k+1):=C3 hv;have hmem:v ∈ l:=List.mem_of_getElem? hv;have hbv:=Eg hmem;have IHv:=Lib.hid (IH v hmem);have hm':=hm.out;rw[hdrop]at hm';simp only[Dq]at hm';clear hm hdrop hmem IH;obtain⟨m,hmv⟩: ∃m,Ay v (d+1)=m:=⟨_,rfl⟩;rw[hmv]at hm';obtain⟨Hmv,Hm⟩:=hid2 hmv hm';clear hm' hmv;obtain⟨k',b',n',t',l',o'⟩:=v;obtain⟨la',lc',oa',oc',hvs,c0,c1,c2,c3,c4,c5⟩:=(hL.below hg hbw).six hv;clear hla hL hv;have hz:=hbw.size;by_cases hm0:m=0
    . have Hk:Hid (Dq (l.drop (k+1)) (d+1)=Dq l (d+1)):=by
       have:=Hm.out
       rwa [if_pos hm0]at this
      subst hm0;clear Hm;go_wp2_with (go_at_call 105;refine(IHv.out _ (d+1) _ (hT.below (hbw.alloc hz _)) (Ac.more (by simp;omega) _ _ (hvs.below ((Below.refl _ _).alloc hz _))) (by omega) (by omega) (by omega)).mono ?_;rintro e w2 ⟨he,hb2⟩;rw[Hmv.out]at he;subst he;have hbw2:Below w.heap.size w w2:=(hbw.alloc hz _).trans (hb2.mono (by simp;omega));obtain⟨hc2,hf2⟩:=Ft hb2;have hz2:=hb2.size;simp only[World.size_alloc]at hz2);go_roundw
      case rel=>exact⟨k+1,by omega,by go_num,Hk,hbw2⟩
      case measure=>simp[intOf];omega
    . have Hk:Hid (m=Dq l (d+1)):=by
       have:=Hm.out
       rwa [if_neg hm0]at this
      clear Hm;have hm1:(m==0)=false:=by simpa using hm0
      have hm2:(m != 0)=true:=by simpa using hm0
      go_wp2_with (go_at_call 105;refine(IHv.out _ (d+1) _ (hT.below (hbw.alloc hz _)) (Ac.more (by simp;omega) _ _ (hvs.below ((Below.refl _ _).alloc hz _))) (by omega) (by omega) (by omega)).mono ?_;rintro e w2 ⟨he,hb2⟩;rw[Hmv.out]at he;subst he;have hbw2:Below w.heap.size w w2:=(hbw.alloc hz _).trans (hb2.mono (by simp;omega));obtain⟨hc2,hf2⟩:=Ft hb2;have hz2:=hb2.size;simp only[World.size_alloc]at hz2);go_ret;exact⟨by rw[<-Hk.out];rfl,hbw2⟩
  . obtain rfl:k=l.length:=by omega
    rw[List.drop_length]at hm;go_wp2;go_ret;exact⟨by rw[<-hm.out];rfl,hbw⟩
theorem Ce {s:ByteArray} {B:Bool} (h:A8 s=B) (w:World) (hs:s.size<=9223372036854775807) (hT:Cf w):
 Calls Tryz.prog 159 #[.string s] w fun e w'=>e=.returned (.bool B)/\Below w.heap.size w w':=by
 subst h;exact Ux _ _ hs hT
def Fo (o:List (ByteArray×Val)):Nat->Option ByteArray
 |0=>none
 |k+1=>(o[k]?).map (·.1)
theorem Afq (b:Bool) (n:Int) (t:ByteArray) (o:List (ByteArray×Val)) (la oa:Option Addr) (lc oc:Nat) (d:Int) (w:World) (hT:Cf w) (g off:Nat) (hoa:o= []\/(oa=some ⟨g,off,none⟩/\g<w.heap.size/\Au w w.heap.size o g off))
 (hb:Al o<=1000000000) (h0:0<=d) (h64:d<=64) (IH: ∀m ∈ o,Amz m.2) (hodd:Et 6 b n t 0 o.length=false):
 Calls Tryz.prog 105 #[.agg #[.int .i64 6,.bool b,.int .i64 n,.string t,.slice la 0 lc,.slice oa o.length oc],.int .i64 d] w fun e w'=>e=.returned (.int .i64 (Df o none (d+1)))/\Below w.heap.size w w':=by
 have hlen:o.length<=1000000000:=by have:=Cg o;omega
 go_enter Tryz.func105,Tryz.ntmps105;go_wp2_with (go_at_call 158;refine(Eu hodd _).mono ?_;rintro e w1 ⟨rfl,hb1⟩;obtain⟨hc1,hf1⟩:=Ft hb1;have hz1:=hb1.size;simp only[World.size_alloc]at hz1);have hbw1:Below w.heap.size w w1:=((Below.refl _ _).alloc (Nat.le_refl _) _).trans (hb1.mono (by simp));have hbox1:w1.heap[w.heap.size]? =some (.cells #[.int .i64 6,.bool b,.int .i64 n,.string t,.slice la 0 lc,.slice oa o.length oc] 39 (0,0)):=by
  rw[hb1.block _ (by simp)];exact heap_alloc_new _ _
 have H:Hid (Df (o.drop 0) (Fo o 0) (d+1)=Df o none (d+1)):=by rw[List.drop_zero];exact rfl
 clear hb1 hodd hc1 hf1 hz1;go_loopw [47] (fun i wr=> ∃k:Nat,k<=o.length/\i=.int .i64 k/\Hid (Df (o.drop k) (Fo o k) (d+1)=Df o none (d+1))/\Below w.heap.size w wr/\wr.heap[w.heap.size]? =some (.cells #[.int .i64 6,.bool b,.int .i64 n,.string t,.slice la 0 lc,.slice oa o.length oc] 39 (0,0))) (fun i _=>o.length - (intOf i).toNat)
 case atStart=>exact⟨0,Nat.zero_le _,rfl,H,hbw1,hbox1⟩
 case round=>
  obtain⟨k,hk,rfl,hm,hbw,hbox⟩:=hrel;clear H hbw1 hbox1;by_cases hlt:k<o.length
  . obtain⟨rfl,hg,hL⟩:oa=some ⟨g,off,none⟩/\g<w.heap.size/\Au w w.heap.size o g off:=by
     rcases hoa with rfl|h
     . simp at hlt
     . exact h
    obtain⟨⟨key,v⟩,hv⟩: ∃v,o[k]? =some v:=⟨_,List.getElem?_eq_getElem hlt⟩;have hdrop:o.drop k=(key,v)::o.drop (k+1):=C3 hv;have hmem:(key,v) ∈ o:=List.mem_of_getElem? hv;have hbv:=C9 hmem;simp only at hbv;have IHv:=Lib.hid (IH (key,v) hmem);have hlast:Fo o (k+1)=some key:=by simp[Fo,hv]
    have hm':=hm.out;rw[hdrop]at hm';simp only[Df,Ot,<-hlast]at hm';clear hm hdrop hmem IH;have hbx:w.heap.size<wr.heap.size:=(Array.getElem?_eq_some_iff.1 hbox).1;have b5:wr.cell? ⟨w.heap.size,5,none⟩=some (.slice (some ⟨g,off,none⟩) o.length oc):=by rw[Lib.cell_of_heap hbox];rfl
    have hz:=hbw.size;have hLr:=hL.below hg hbw;have hgr:g<wr.heap.size:=by omega
    obtain⟨k',b',n',t',l',o'⟩:=v;obtain⟨la',lc',oa',oc',hvs,c0,c1,c2,c3,c4,c5,c6⟩:=hLr.seven hv;by_cases hval:A8 key=true
    . rw[hval]at hm';simp only[if_true]at hm';by_cases hkp:0<k
      ·
       have hlt1:k - 1<o.length:=by omega
       obtain⟨⟨q,vq⟩,hq⟩: ∃m,o[k - 1]? =some m:=⟨_,List.getElem?_eq_getElem hlt1⟩;have hlq:Fo o k=some q:=by
        obtain⟨j,rfl⟩: ∃j,k=j+1:=⟨k - 1,by omega⟩;simp only[Nat.add_sub_cancel]at hq;simp[Fo,hq]
       rw[hlq]at hm';simp only at hm';have cq:wr.cell? ⟨g,off+(k - 1)*7,none⟩=some (.string q):=(hLr.at_ hq).1;have hgd:decide (0<k)=true:=by simpa using hkp
       have hk1:(0:Int)<=(k:Int) - 1:=by omega
       have hk2:(k:Int) - 1<(o.length:Int):=by omega
       clear hlq hq hlast hL hv hLr hoa;by_cases hle:U3 key q=true
       . rw[if_pos hle]at hm';unfold U3 at hle;have Hm:=Lib.hid hm';clear hm';go_wp2_with (go_at_call 159;refine(Ce hval _ (by omega) (hT.below (hbw.alloc hz _))).mono ?_;rintro e w2 ⟨rfl,hb2⟩;obtain⟨hc2,hf2⟩:=Ft hb2;have hz2:=hb2.size;simp only[World.size_alloc]at hz2;have hbw2:Below w.heap.size w w2:=(hbw.alloc hz _).trans (hb2.mono (by simp;omega));have hvs2:=hvs.below (((Below.refl _ wr).alloc hz (.cells #[.string key,.int .i64 k',.bool b',.int .i64 n',.string t',.slice la' l'.length lc',.slice oa' o'.length oc'] 63)).trans (hb2.mono (by simp;omega))));have x1:IntKind.i64.wrap ((k:Int) - 1)=(k:Int) - 1:=IntWalk.i64_in _ (by omega);have y1:1<=k:=by omega
         have y2:(1:Int)<=(k:Int):=by omega
         have y3:(k:Int)<(o.length:Int)+1:=by omega
         have y4:k<o.length+1:=by omega
         have y5:(k:Int)<=(o.length:Int):=by omega
         have x2:((k:Int) - 1).toNat=k - 1:=by omega
         go_quiet (fail);clear x1 x2;go_wp2;go_ret;exact⟨by rw[<-Hm.out];rfl,Bi hbw2 _⟩
       . rw[if_neg hle]at hm';have hle':(Op.bytesLess key.toList q.toList||key.toList==q.toList)=false:=by simpa[U3]using hle
         obtain⟨m,hmv⟩: ∃m,Ay (.mk k' b' n' t' l' o') (d+1)=m:=⟨_,rfl⟩;rw[hmv]at hm';have Hmv:=Lib.hid hmv;clear hmv;by_cases hm0:m=0
         . rw[if_pos hm0]at hm';subst hm0;have Hm:=Lib.hid hm';clear hm';go_wp2_with (go_at_call 159;refine(Ce hval _ (by omega) (hT.below (hbw.alloc hz _))).mono ?_;rintro e w2 ⟨rfl,hb2⟩;obtain⟨hc2,hf2⟩:=Ft hb2;have hz2:=hb2.size;simp only[World.size_alloc]at hz2;have hbw2:Below w.heap.size w w2:=(hbw.alloc hz _).trans (hb2.mono (by simp;omega));have hvs2:=hvs.below (((Below.refl _ wr).alloc hz (.cells #[.string key,.int .i64 k',.bool b',.int .i64 n',.string t',.slice la' l'.length lc',.slice oa' o'.length oc'] 63)).trans (hb2.mono (by simp;omega))));have x1:IntKind.i64.wrap ((k:Int) - 1)=(k:Int) - 1:=IntWalk.i64_in _ (by omega);have y1:1<=k:=by omega
           have y2:(1:Int)<=(k:Int):=by omega
           have y3:(k:Int)<(o.length:Int)+1:=by omega
           have y4:k<o.length+1:=by omega
           have y5:(k:Int)<=(o.length:Int):=by omega
           have x2:((k:Int) - 1).toNat=k - 1:=by omega
           go_quiet (fail);clear x1 x2;go_wp2_with (go_at_call 105;refine(IHv.out _ (d+1) _ (hT.below (Bi hbw2 _)) (Ac.more (by simp;omega) _ _ (hvs2.below (Bi (Below.refl _ _) _))) (by omega) (by omega) (by omega)).mono ?_;rintro e w3 ⟨he,hb3⟩;rw[Hmv.out]at he;subst he;have hbw3:Below w.heap.size w w3:=(Bi hbw2 _).trans (hb3.mono (by have:=hbw2.size;simp;omega));have hbx3:w3.heap[w.heap.size]? =wr.heap[w.heap.size]? :=(hb3.block _ (by simp;omega)).trans ((hb2.block _ (by simp;omega)).trans (Below.heap_alloc _ _ _ hbx)));go_roundw
           case rel=>exact⟨k+1,by omega,by go_num,Hm,hbw3,hbx3.trans hbox⟩
           case measure=>simp[intOf];omega
         . rw[if_neg hm0]at hm';have hm1:(m==0)=false:=by simpa using hm0
           have hm2:(m != 0)=true:=by simpa using hm0
           have Hm:=Lib.hid hm';clear hm';go_wp2_with (go_at_call 159;refine(Ce hval _ (by omega) (hT.below (hbw.alloc hz _))).mono ?_;rintro e w2 ⟨rfl,hb2⟩;obtain⟨hc2,hf2⟩:=Ft hb2;have hz2:=hb2.size;simp only[World.size_alloc]at hz2;have hbw2:Below w.heap.size w w2:=(hbw.alloc hz _).trans (hb2.mono (by simp;omega));have hvs2:=hvs.below (((Below.refl _ wr).alloc hz (.cells #[.string key,.int .i64 k',.bool b',.int .i64 n',.string t',.slice la' l'.length lc',.slice oa' o'.length oc'] 63)).trans (hb2.mono (by simp;omega))));have x1:IntKind.i64.wrap ((k:Int) - 1)=(k:Int) - 1:=IntWalk.i64_in _ (by omega);have y1:1<=k:=by omega
           have y2:(1:Int)<=(k:Int):=by omega
           have y3:(k:Int)<(o.length:Int)+1:=by omega
           have y4:k<o.length+1:=by omega
           have y5:(k:Int)<=(o.length:Int):=by omega
           have x2:((k:Int) - 1).toNat=k - 1:=by omega
           go_quiet (fail);clear x1 x2;go_wp2_with (go_at_call 105;refine(IHv.out _ (d+1) _ (hT.below (Bi hbw2 _)) (Ac.more (by simp;omega) _ _ (hvs2.below (Bi (Below.refl _ _) _))) (by omega) (by omega) (by omega)).mono ?_;rintro e w3 ⟨he,hb3⟩;rw[Hmv.out]at he;subst he;have hbw3:Below w.heap.size w w3:=(Bi hbw2 _).trans (hb3.mono (by have:=hbw2.size;simp;omega));have hbx3:w3.heap[w.heap.size]? =wr.heap[w.heap.size]? :=(hb3.block _ (by simp;omega)).trans ((hb2.block _ (by simp;omega)).trans (Below.heap_alloc _ _ _ hbx)));go_ret;exact⟨by rw[<-Hm.out];rfl,hbw3⟩
      . have hlk:Fo o k=none:=by
         obtain rfl:k=0:=by omega
         rfl
        rw[hlk]at hm';simp only at hm';have hgd:decide (0<k)=false:=by simpa using hkp
        have hk0:k<=0:=by omega
        clear hlk hlast hL hv hLr hoa;obtain⟨m,hmv⟩: ∃m,Ay (.mk k' b' n' t' l' o') (d+1)=m:=⟨_,rfl⟩;rw[hmv]at hm';have Hmv:=Lib.hid hmv;clear hmv;by_cases hm0:m=0
        . rw[if_pos hm0]at hm';subst hm0;have Hm:=Lib.hid hm';clear hm';go_wp2_with (go_at_call 159;refine(Ce hval _ (by omega) (hT.below (hbw.alloc hz _))).mono ?_;rintro e w2 ⟨rfl,hb2⟩;obtain⟨hc2,hf2⟩:=Ft hb2;have hz2:=hb2.size;simp only[World.size_alloc]at hz2;have hbw2:Below w.heap.size w w2:=(hbw.alloc hz _).trans (hb2.mono (by simp;omega));have hvs2:=hvs.below (((Below.refl _ wr).alloc hz (.cells #[.string key,.int .i64 k',.bool b',.int .i64 n',.string t',.slice la' l'.length lc',.slice oa' o'.length oc'] 63)).trans (hb2.mono (by simp;omega))));go_quiet (fail);go_wp2_with (go_at_call 105;refine(IHv.out _ (d+1) _ (hT.below (Bi hbw2 _)) (Ac.more (by simp;omega) _ _ (hvs2.below (Bi (Below.refl _ _) _))) (by omega) (by omega) (by omega)).mono ?_;rintro e w3 ⟨he,hb3⟩;rw[Hmv.out]at he;subst he;have hbw3:Below w.heap.size w w3:=(Bi hbw2 _).trans (hb3.mono (by have:=hbw2.size;simp;omega));have hbx3:w3.heap[w.heap.size]? =wr.heap[w.heap.size]? :=(hb3.block _ (by simp;omega)).trans ((hb2.block _ (by simp;omega)).trans (Below.heap_alloc _ _ _ hbx)));go_roundw
          case rel=>exact⟨k+1,by omega,by go_num,Hm,hbw3,hbx3.trans hbox⟩
          case measure=>simp[intOf];omega
        . rw[if_neg hm0]at hm';have hm1:(m==0)=false:=by simpa using hm0
          have hm2:(m != 0)=true:=by simpa using hm0
          have Hm:=Lib.hid hm';clear hm';go_wp2_with (go_at_call 159;refine(Ce hval _ (by omega) (hT.below (hbw.alloc hz _))).mono ?_;rintro e w2 ⟨rfl,hb2⟩;obtain⟨hc2,hf2⟩:=Ft hb2;have hz2:=hb2.size;simp only[World.size_alloc]at hz2;have hbw2:Below w.heap.size w w2:=(hbw.alloc hz _).trans (hb2.mono (by simp;omega));have hvs2:=hvs.below (((Below.refl _ wr).alloc hz (.cells #[.string key,.int .i64 k',.bool b',.int .i64 n',.string t',.slice la' l'.length lc',.slice oa' o'.length oc'] 63)).trans (hb2.mono (by simp;omega))));go_quiet (fail);go_wp2_with (go_at_call 105;refine(IHv.out _ (d+1) _ (hT.below (Bi hbw2 _)) (Ac.more (by simp;omega) _ _ (hvs2.below (Bi (Below.refl _ _) _))) (by omega) (by omega) (by omega)).mono ?_;rintro e w3 ⟨he,hb3⟩;rw[Hmv.out]at he;subst he;have hbw3:Below w.heap.size w w3:=(Bi hbw2 _).trans (hb3.mono (by have:=hbw2.size;simp;omega));have hbx3:w3.heap[w.heap.size]? =wr.heap[w.heap.size]? :=(hb3.block _ (by simp;omega)).trans ((hb2.block _ (by simp;omega)).trans (Below.heap_alloc _ _ _ hbx)));go_ret;exact⟨by rw[<-Hm.out];rfl,hbw3⟩
    . have hvf:A8 key=false:=by simpa using hval
      rw[hvf]at hm';have Hm:=Lib.hid hm';clear hm' hlast hval hbox hoa hL hv hLr;go_wp2_with (go_at_call 159;refine(Ce hvf _ (by omega) (hT.below (hbw.alloc hz _))).mono ?_;rintro e w2 ⟨rfl,hb2⟩;have hbw2:Below w.heap.size w w2:=(hbw.alloc hz _).trans (hb2.mono (by simp;omega)));go_ret;exact⟨by rw[<-Hm.out];simp,hbw2⟩
  . obtain rfl:k=o.length:=by omega
    rw[List.drop_length]at hm;go_wp2;go_ret;exact⟨by rw[<-hm.out];rfl,hbw⟩
theorem Kg {t:ByteArray} (h:t.toList= []):t=ByteArray.empty:=by
 rw[Lib.toList_data]at h;have:t.data= #[]:=by simpa using h
 exact ByteArray.ext this
theorem G9:A8 ByteArray.empty=true:=by decide
theorem Qx {k:Int} {b:Bool} {n:Int} {t:ByteArray} {ln on:Nat} (h:Et k b n t ln on=false):
 (k=1\/k=2\/k=3\/k=4\/k=5\/k=6)/\(k=4\/t=ByteArray.empty)/\(k=5\/ln=0)/\(k=6\/on=0):=by
 unfold Et at h;by_cases h1:k=1
 . subst h1;simp at h;exact⟨.inl rfl,.inr (Kg h.1.1.2),.inr h.1.2,.inr h.2⟩
 by_cases h2:k=2
 . subst h2;simp at h;exact⟨by omega,.inr (Kg h.1.1.2),.inr h.1.2,.inr h.2⟩
 by_cases h3:k=3
 . subst h3;simp at h;exact⟨by omega,.inr (Kg h.1.1.2),.inr h.1.2,.inr h.2⟩
 by_cases h4:k=4
 . subst h4;simp at h;exact⟨by omega,.inl rfl,.inr h.1.2,.inr h.2⟩
 by_cases h5:k=5
 . subst h5;simp at h;exact⟨by omega,.inr (Kg h.1.2),.inl rfl,.inr h.2⟩
 by_cases h6:k=6
 . subst h6;simp at h;exact⟨by omega,.inr (Kg h.1.2),.inr h.2,.inl rfl⟩
 simp[h1,h2,h3,h4,h5,h6]at h
theorem L4 {k:Int} {b:Bool} {n:Int} {t:ByteArray} {d:Int} (ho:Et k b n t 0 0=false) (h64:d<=64):Ay (.mk k b n t [] []) d=if A8 t then 0 else 3:=by
 simp only[Ay,List.length_nil,ho,Bool.false_eq_true,if_false,if_neg (show ¬64<d by omega),Dq,Df,if_true]
theorem Ag9: ∀(v:Val),Amz v:=by
 refine Val.ind ?_;intro k b n t l o ihl iho cs d w hT hV hb h0 h65;simp only[Ac]at hV;obtain⟨la,lc,oa,oc,rfl,hL,hO⟩:=hV;by_cases hodd:Et k b n t l.length o.length=true
 . have hm:Ay (.mk k b n t l o) d=9:=by simp only[Ay,hodd,if_true]
   rw[hm];clear hm ihl iho hL hO;go_enter Tryz.func105,Tryz.ntmps105;go_wp2_with (go_at_call 158;refine(Eu hodd _).mono ?_;rintro e w' ⟨rfl,hb1⟩);go_ret;exact⟨rfl,((Below.refl _ _).alloc (Nat.le_refl _) _).trans (hb1.mono (by simp))⟩
 have hodd':Et k b n t l.length o.length=false:=by simpa using hodd
 clear hodd;by_cases h64:64<d
 . have hm:Ay (.mk k b n t l o) d=5:=by simp only[Ay,hodd',Bool.false_eq_true,if_false,h64,if_true]
   rw[hm];clear hm ihl iho hL hO;go_enter Tryz.func105,Tryz.ntmps105;go_wp2_with (go_at_call 158;refine(Eu hodd' _).mono ?_;rintro e w' ⟨rfl,hb1⟩);go_ret;exact⟨rfl,((Below.refl _ _).alloc (Nat.le_refl _) _).trans (hb1.mono (by simp))⟩
 obtain⟨hk,ht,hl,ho⟩:=Qx hodd';simp only[Val.bulk]at hb;rcases hk with rfl|rfl|rfl|rfl|rfl|rfl
 . obtain rfl:l= []:=List.eq_nil_of_length_eq_zero (by omega);obtain rfl:o= []:=List.eq_nil_of_length_eq_zero (by omega);obtain rfl:t=ByteArray.empty:=by simpa using ht
   rw[L4 hodd' (by omega),G9];clear ihl iho hL hO hl ho ht;go_enter Tryz.func105,Tryz.ntmps105;go_wp2_with (go_at_call 158;refine(Eu hodd' _).mono ?_;rintro e w' ⟨rfl,hb1⟩;obtain⟨hc1,hf1⟩:=Ft hb1;have hz1:=hb1.size;simp only[World.size_alloc]at hz1);go_ret;exact⟨rfl,((Below.refl _ _).alloc (Nat.le_refl _) _).trans (hb1.mono (by simp))⟩
 . obtain rfl:l= []:=List.eq_nil_of_length_eq_zero (by omega);obtain rfl:o= []:=List.eq_nil_of_length_eq_zero (by omega);obtain rfl:t=ByteArray.empty:=by simpa using ht
   rw[L4 hodd' (by omega),G9];clear ihl iho hL hO hl ho ht;go_enter Tryz.func105,Tryz.ntmps105;go_wp2_with (go_at_call 158;refine(Eu hodd' _).mono ?_;rintro e w' ⟨rfl,hb1⟩;obtain⟨hc1,hf1⟩:=Ft hb1;have hz1:=hb1.size;simp only[World.size_alloc]at hz1);go_ret;exact⟨rfl,((Below.refl _ _).alloc (Nat.le_refl _) _).trans (hb1.mono (by simp))⟩
 . obtain rfl:l= []:=List.eq_nil_of_length_eq_zero (by omega);obtain rfl:o= []:=List.eq_nil_of_length_eq_zero (by omega);obtain rfl:t=ByteArray.empty:=by simpa using ht
   rw[L4 hodd' (by omega),G9];clear ihl iho hL hO hl ho ht;go_enter Tryz.func105,Tryz.ntmps105;go_wp2_with (go_at_call 158;refine(Eu hodd' _).mono ?_;rintro e w' ⟨rfl,hb1⟩;obtain⟨hc1,hf1⟩:=Ft hb1;have hz1:=hb1.size;simp only[World.size_alloc]at hz1);go_ret;exact⟨rfl,((Below.refl _ _).alloc (Nat.le_refl _) _).trans (hb1.mono (by simp))⟩
 . obtain rfl:l= []:=List.eq_nil_of_length_eq_zero (by omega);obtain rfl:o= []:=List.eq_nil_of_length_eq_zero (by omega);rw[L4 hodd' (by omega)];clear ihl iho hL hO hl ho ht;have hT1: ∀w1,Below w.heap.size w w1->Cf w1:=fun _ h=>hT.below h;by_cases hv:A8 t=true
   . rw[hv];go_enter Tryz.func105,Tryz.ntmps105;go_wp2_with (first|(go_at_call 158;refine(Eu hodd' _).mono ?_;rintro e w1 ⟨rfl,hb1⟩;obtain⟨hc1,hf1⟩:=Ft hb1;have hz1:=hb1.size;simp only[World.size_alloc]at hz1;have hbw1:Below w.heap.size w w1:=((Below.refl _ _).alloc (Nat.le_refl _) _).trans (hb1.mono (by simp)))|(go_at_call 159;refine(Ce hv _ (by omega) (hT1 _ hbw1)).mono ?_;rintro e w2 ⟨rfl,hb2⟩));go_ret;exact⟨rfl,hbw1.trans (hb2.mono hbw1.size)⟩
   . have hv':A8 t=false:=by simpa using hv
     rw[hv'];go_enter Tryz.func105,Tryz.ntmps105;go_wp2_with (first|(go_at_call 158;refine(Eu hodd' _).mono ?_;rintro e w1 ⟨rfl,hb1⟩;obtain⟨hc1,hf1⟩:=Ft hb1;have hz1:=hb1.size;simp only[World.size_alloc]at hz1;have hbw1:Below w.heap.size w w1:=((Below.refl _ _).alloc (Nat.le_refl _) _).trans (hb1.mono (by simp)))|(go_at_call 159;refine(Ce hv' _ (by omega) (hT1 _ hbw1)).mono ?_;rintro e w2 ⟨rfl,hb2⟩));go_ret;exact⟨rfl,hbw1.trans (hb2.mono hbw1.size)⟩
 . obtain rfl:o= []:=List.eq_nil_of_length_eq_zero (by omega);obtain rfl:t=ByteArray.empty:=by simpa using ht
   have hm:Ay (.mk 5 b n ByteArray.empty l []) d=Dq l (d+1):=by
    simp only[Ay,hodd',Bool.false_eq_true,if_false,h64,G9,if_true,Df]
    split<;>simp_all
   rw[hm];rcases hL with rfl|⟨g,off,rfl,hg,hL⟩
   . exact Aa0 b n _ [] la oa lc oc d w hT 0 0 (.inl rfl) (by simp[Bc]) h0 (by omega) ihl hodd'
   . exact Aa0 b n _ l _ oa lc oc d w hT g off (.inr ⟨rfl,hg,hL⟩) (by omega) h0 (by omega) ihl hodd'
 . obtain rfl:l= []:=List.eq_nil_of_length_eq_zero (by omega);obtain rfl:t=ByteArray.empty:=by simpa using ht
   have hm:Ay (.mk 6 b n ByteArray.empty [] o) d=Df o none (d+1):=by
    simp only[Ay,hodd',Bool.false_eq_true,if_false,h64,G9,if_true,Dq]
   rw[hm];rcases hO with rfl|⟨g,off,rfl,hg,hO⟩
   . exact Afq b n _ [] la oa lc oc d w hT 0 0 (.inl rfl) (by simp[Al]) h0 (by omega) iho hodd'
   . exact Afq b n _ o la _ lc oc d w hT g off (.inr ⟨rfl,hg,hO⟩) (by omega) h0 (by omega) iho hodd'
theorem Qm (v:Val) (cs:List Value) (w:World) (hT:Cf w) (hV:Ac w w.heap.size v cs) (hb:v.bulk<=1000000000):
 Calls Tryz.prog 73 #[.agg cs.toArray] w fun e w'=>e=.returned (.int .i64 (Ay v 1))/\Below w.heap.size w w':=by
 have hV':=hV;obtain⟨k,b,n,t,l,o⟩:=v;simp only[Ac]at hV';obtain⟨la,lc,oa,oc,rfl,_,_⟩:=hV';have hc:=Ag9 _ _ 1 (w.alloc (.cells #[.int .i64 k,.bool b,.int .i64 n,.string t,.slice la l.length lc,.slice oa o.length oc] 39)) (hT.below ((Below.refl _ _).alloc (Nat.le_refl _) _)) (Ac.more (by simp) _ _ (hV.below ((Below.refl _ _).alloc (Nat.le_refl _) _))) hb (by omega) (by omega);generalize Ay _ _=m at hc ⊢;have H:=Lib.hid hc;clear hc hV;go_enter Tryz.func73,Tryz.ntmps73;go_wp2_with (go_at_call 105;refine(H.out).mono ?_;rintro e w' ⟨rfl,hb1⟩);go_ret;exact⟨rfl,((Below.refl _ _).alloc (Nat.le_refl _) _).trans (hb1.mono (by simp))⟩
def Aco {α:Type} (P:Program) (gf:Nat) (lb:Array Value) (encs:α->Array Value) (xs:List α) (N:World->Prop):Prop:=
 ∀(n l:Nat) (J:List α->World->Prop) (W:World),(∀s A B,J s A->Below A.heap.size A B->J s B)->(∀s A,J s A->N A)->
  (∀pre x rest A,xs=pre++x::rest->J pre A->YieldAt Fence.wide n P l (encs x) A fun e B=>e=.returned (.bool true)/\J (pre++ [x]) B)->
  J [] W->CallsIn Fence.wide (n+1) P gf (#[.func (.yield l) #[] #[]]++lb) W fun e B=>(∃v,e=.returned v)/\J xs B
def Ye (I:World->Prop) (d:Nat) (W:World):Exit->Act->World->Prop
 | .normal,_,W'=>W'.heap[d]? =W.heap[d]? /\W'.heap[d+1]? =W.heap[d+1]? /\I W'
 |_,_,_=>False
theorem Qj {α:Type} {P:Program} {g:Operand} {ps:Array Tmp} {assign body:Code} {Q:Exit->Act->World->Prop} {a:Act} {w:World} {n:Nat}
 {gf:Nat} {lb:Array Value} (hg:a.eval g=.func (.func gf) #[] lb) (eg: ∀args w,(callFunc gf args).run P w=.ok (.enter gf args) w)
 {encs:α->Array Value} {xs:List α} {N:World->Prop} (hit:Aco P gf lb encs xs N) (hps: ∀x,(encs x).size=ps.size)
 (I:List α->World->Prop) (hIn: ∀s A B,I s A->Below A.heap.size A B->I s B)
 (hIp: ∀s A k o o',I s A->A.heap[k]? =some o->o.isCells=false->(k=w.heap.size\/k=w.heap.size+1)->I s (A.putObj k o'))
 (hIb: ∀s A,I s A->N A) (h0:I [] w) (a₁:α->Act)
 (hassign: ∀(l:Nat) (x:α) (W:World) (K:Act->World->Prop),K (a₁ x) W->
   assign.wpIn (Fence.wide.inRound l) n P (Exit.then K (fun _ _ _=>False)) {tmps:=(ps.zip (encs x)).foldl (fun t (p,v)=>t.setIfInBounds p v) a.tmps,defers:= []} W)
 (hbody: ∀(l:Nat) (pre:List α) (x:α) (rest:List α) (W:World),xs=pre++x::rest->I pre W->(∃ds,W.heap[w.heap.size]? =some (.deferred ds))->(∃r,W.heap[w.heap.size+1]? =some (.loop r))->
   body.wpIn (Fence.wide.inRound l) n P (Ye (I (pre++ [x])) w.heap.size W) (a₁ x) W)
 (hdone: ∀(W:World),I xs W->W.heap[w.heap.size]? =some (.deferred (some []))->Q .normal {a with defers:={target:=.collected w.heap.size,args:= #[]}::a.defers} W):
 (Code.rangeFunc g ps assign body).wpIn Fence.wide (n+1+1) P Q a w:=by
 refine wpIn_rangeFunc ?_;intro fn hfn;have hro:Fence.wide.round=none:=rfl;rw[hro];obtain⟨rec,hrec⟩: ∃rec:LoopState->Option Code->Loop,rec=fun st pe=>{state:=st,pending:=pe,fn,tmps:=a.tmps,params:=ps,assign,body,defers:=w.heap.size}:=⟨_,rfl⟩;obtain⟨W1,hW1⟩: ∃W1,(w.alloc (.deferred (some []))).alloc (.loop (rec .ready none))=W1:=⟨_,rfl⟩;have hL1:W1.heap[w.heap.size+1]? =some (.loop (rec .ready none)):=by
  rw[<-hW1];have:=World.alloc_heap_new (w.alloc (.deferred (some []))) (.loop (rec .ready none));rwa [World.size_alloc]at this
 have hK1:W1.heap[w.heap.size]? =some (.deferred (some [])):=by
  rw[<-hW1];exact(Below.heap_alloc _ _ _ (by simp)).trans (World.alloc_heap_new w _)
 have hI1:I [] W1:=by
  rw[<-hW1];exact hIn _ _ _ h0 (((Below.refl _ w).alloc (Nat.le_refl _) _).alloc (by simp) _)
 refine⟨w.heap.size+1, [{target:=.collected w.heap.size,args:= #[]}],W1,{target:=.fn (.func gf) lb,args:= #[.func (.yield (w.heap.size+1)) #[] #[]]},W1,gf,
  #[.func (.yield (w.heap.size+1)) #[] #[]]++lb,W1, ?_, ?_, ?_, ?_,fun h=>by simp[Fence.wide]at h, ?_⟩
 . rw[<-hW1,hrec];exact run_enterLoop_outer _ _ _ _ _
 . simp only[resolve,hg];simp[go_sem]
 . intro f' _;trivial
 . simp[invoke,go_sem,eg]
 . refine(hit n (w.heap.size+1)
    (fun pre W=>I pre W/\W.heap[w.heap.size+1]? =some (.loop (rec .ready none))/\W.heap[w.heap.size]? =some (.deferred (some [])))
    W1 (fun s A B hs hb=>⟨hIn s A B hs.1 hb,(hb.block _ (Array.getElem?_eq_some_iff.1 hs.2.1).1).trans hs.2.1,(hb.block _ (Array.getElem?_eq_some_iff.1 hs.2.2).1).trans hs.2.2⟩)
    (fun s A hs=>hIb s A hs.1) ?_ ⟨hI1,hL1,hK1⟩).mono ?_
   ·
    rintro pre x rest W hx ⟨hi,hl,hk⟩;have hlt:w.heap.size+1<W.heap.size:=(Array.getElem?_eq_some_iff.1 hl).1;have hy:=run_yield (P:=P) (args:=encs x) hl (by rw[hrec];exact hps x);rw[hrec]at hy;refine⟨fn,_,assign,body,hy,roundIn_of_wpIn trivial (hassign _ x W _ ⟨_,run_beginRound hl (by rw[hrec]), ?_⟩)⟩;have hl2:(W.putObj (w.heap.size+1) (.loop {rec .ready none with state:=.busy})).heap[w.heap.size+1]? =some (.loop {rec .ready none with state:=.busy}):=World.putObj_heap_same hlt;have hk2:(W.putObj (w.heap.size+1) (.loop {rec .ready none with state:=.busy})).heap[w.heap.size]? =some (.deferred (some [])):=(World.putObj_heap_other (by omega)).trans hk;refine wpIn_mono (hbody _ pre x rest _ hx (hIp _ _ _ _ _ hi hl rfl (.inr rfl)) ⟨_,hk2⟩ ⟨_,hl2⟩) ?_;rintro e a3 W3 hp
    cases e with
    |normal=>
     obtain⟨h1,h2,hi3⟩:=hp;have hl3:=h2.trans hl2;have hk3:=h1.trans hk2;have hr:=run_endRound (P:=P) none hl3;rw[hrec]at hr;refine⟨_,_,hr,rfl,hIp _ _ _ _ _ hi3 hl3 rfl (.inr rfl), ?_, ?_⟩
     . rw[World.putObj_heap_same (Array.getElem?_eq_some_iff.1 hl3).1,hrec];rfl
     . exact(World.putObj_heap_other (by omega)).trans hk3
    |ret=>exact hp.elim
    |exit id=>exact hp.elim
    |goto t=>exact hp.elim
    |panic ch=>exact hp.elim
    |outgrown=>exact hp.elim
   ·
    rintro e W2 ⟨⟨v,rfl⟩,hi,hl,hk⟩;exact⟨none,_,by have:=run_endLoop (P:=P) hl (by rw[hrec];simp);rw[hrec]at this;exact this,hdone _ (hIp _ _ _ _ _ hi hl rfl (.inr rfl)) ((World.putObj_heap_other (by omega)).trans hk)⟩
end Go.Proofs.YtackmnbpfbaemaaGreatDoor
namespace Go.Proofs.YtackmnbpfbaemaaGreatDoor
open Go.RowKit Go.Shelf
def O8 (w:World) (B g o:Nat) (t:TypeId) (cs:Array Value) (bs:List UInt8):Prop:=
 B<=g/\w.heap[g]? =some (.cells cs t (0,0))/\t≠5/\o+1<cs.size/\(cs[o]? =some (.pointer none)\/cs[o]? =some (.pointer (some ⟨g,o,none⟩)))/\
  ∃v,cs[o+1]? =some v/\w.ownsRow B 5 1 v bs.length (Lib.byteCells bs)
def Oc (g o:Nat) (cs:Array Value) (v:Value):Array Value:=(cs.setIfInBounds o (.pointer (some ⟨g,o,none⟩))).setIfInBounds (o+1) v
theorem O8.lt {w:World} {B g o:Nat} {t:TypeId} {cs:Array Value} {bs:List UInt8} (h:O8 w B g o t cs bs):g<w.heap.size:=by
 rcases Nat.lt_or_ge g w.heap.size with h'|h'
 . exact h'
 . have:=h.2.1;simp[Array.getElem?_eq_none h']at this
abbrev E8 (g:Nat) (w w':World):Prop:=Lib.OthersKept 5 (some g) w w'
theorem Cp {w:World} {g i:Nat} {cs:Array Value} {t:TypeId} (h:w.heap[g]? =some (.cells cs t (0,0))) (u:Value):(w.setCell ⟨g,i,none⟩ u).heap[g]? =some (.cells (cs.setIfInBounds i u) t (0,0)):=by
 simp[World.setCell,Array.getElem?_modify,h]
theorem O8.used {w:World} {B g o:Nat} {t:TypeId} {cs:Array Value} {bs:List UInt8} (h:O8 w B g o t cs bs):
 O8 (w.setCell ⟨g,o,none⟩ (.pointer (some ⟨g,o,none⟩))) B g o t (cs.setIfInBounds o (.pointer (some ⟨g,o,none⟩))) bs:=by
 obtain⟨hB,hb,ht,hs,h0,v,h1,hown⟩:=h;refine⟨hB,Cp hb _,ht,by simpa using hs,.inr (by rw[Array.getElem?_setIfInBounds_self_of_lt (by omega)]),v,by rw[Array.getElem?_setIfInBounds,if_neg (by omega)];exact h1, ?_⟩;exact hown.kept (row:=some g) ⟨rfl,rfl,rfl,by simp[World.setCell],fun k _ hk=>Below.heap_setCell _ _ _ _ (fun e=>hk (by simp[e]))⟩ (Or.inr (Lib.ownBlock_ne hown hb ht))
set_option maxRecDepth 100000 in
theorem Jc (B g o:Nat) (t:TypeId) (cs:Array Value) (bs:List UInt8) (w:World) (h:O8 w B g o t cs bs) (hl:liesAt Tryz.prog Tryz.prog.depth t (cs.size / Tryz.prog.cellsOf t) o 128 1=true):
 Calls Tryz.prog 188 #[.pointer (some ⟨g,o,none⟩)] w fun e w'=>e=.returned (.tuple #[])/\O8 w' B g o t (cs.setIfInBounds o (.pointer (some ⟨g,o,none⟩))) bs/\Below B w w'/\E8 g w w':=by
 have hu:=h.used;obtain⟨hB,hb,ht,hs,h0,v,h1,hown⟩:=h;obtain⟨j,hj,hj2⟩: ∃j,Tryz.prog.info? 128=some j/\j.size=2:=by
  have:(Tryz.prog.info? 128).map (·.size)=some 2:=by kernel_rfl
  cases hq:Tryz.prog.info? 128 with
  |none=>simp[hq]at this
  |some j=>exact⟨j,rfl,by simpa[hq]using this⟩
 have hsh:w.shape? g=some (t,cs.size):=by simp[World.shape?,hb]
 rcases h0 with h0|h0
 . have c0:w.cell? ⟨g,o,none⟩=some (.pointer none):=by rw[Lib.cell_of_heap hb];exact h0
   have f0:w.frozen? ⟨g,o,none⟩=false:=Lib.frozen_of_heap hb o;go_enter Tryz.func188,Tryz.ntmps188;go_wp2;rw[Lib.run_to_unsafe (P:=Tryz.prog) w (src:=126) (dst:=169) (t:=128) ⟨g,o,none⟩ Tryz.underlying126 Tryz.underlying169 hj (by omega) hsh (by show o<cs.size;omega)];simp only[Result.andThen];rw[Oper.upon_value];go_wp2;rw[run_callFunc_extern Tryz.func213 (by kernel_rfl) (by kernel_rfl) (by kernel_rfl) (e:=Extern.AbiNoEscape.same) (by kernel_rfl)];rw[Lib.run_noEscape];simp only[Result.andThen];rw[Oper.upon_value];go_wp2;rw[Lib.run_from_unsafe (P:=Tryz.prog) w (src:=169) (dst:=126) (u:=128) ⟨g,o,none⟩ Tryz.underlying169 Tryz.underlying126 hj hsh hl];simp only[Result.andThen];rw[Oper.upon_value];go_wp2
   go_end0
   exact⟨rfl,hu,(Below.refl B w).setCell (p:=⟨g,o,none⟩) hB _,(Lib.OthersKept.refl _ _ w).setCell ⟨g,o,none⟩ rfl _⟩
 . have c0:w.cell? ⟨g,o,none⟩=some (.pointer (some ⟨g,o,none⟩)):=by rw[Lib.cell_of_heap hb];exact h0
   have hself:cs.setIfInBounds o (.pointer (some ⟨g,o,none⟩))=cs:=by
    apply Array.ext_getElem?
    intro i;rw[Array.getElem?_setIfInBounds]
    split
    . rename_i h;subst h;rw[if_pos (by omega),h0]
    . rfl
   have neq:=Lib.run_neq_ptr_same (P:=Tryz.prog) w (tp:=126) (te:=128) ⟨g,o,none⟩ Tryz.underlying126 hj;go_enter Tryz.func188,Tryz.ntmps188;go_wp2
   go_end0
   exact⟨rfl,by rw[hself];exact⟨hB,hb,ht,hs,.inr h0,v,h1,hown⟩,Below.refl _ _,Lib.OthersKept.refl _ _ _⟩
theorem infoByte:(Tryz.prog.info? 5).map (fun i=>(i.zero,i.size,i.bytes))=some (some (.int .u8 0),1,1):=by kernel_rfl
theorem O8.put {w1 w2:World} {B g o:Nat} {t:TypeId} {cs:Array Value} {bs bs':List UInt8} (h:O8 w1 B g o t (cs.setIfInBounds o (.pointer (some ⟨g,o,none⟩))) bs) (hos:o+1<cs.size)
 (hb2:w2.heap[g]? =some (.cells (cs.setIfInBounds o (.pointer (some ⟨g,o,none⟩))) t (0,0))) {v':Value} (hown':w2.ownsRow B 5 1 v' bs'.length (Lib.byteCells bs')):
 O8 (w2.setCell ⟨g,o+1,none⟩ v') B g o t (Oc g o cs v') bs':=by
 obtain⟨hB,_,ht,hs,h0,_⟩:=h;refine⟨hB,Cp hb2 _,ht,by simpa[Oc]using hs,.inr ?_,v', ?_, ?_⟩
 . unfold Oc;rw[Array.getElem?_setIfInBounds,if_neg (by omega),Array.getElem?_setIfInBounds_self_of_lt (by omega)]
 . unfold Oc;rw[Array.getElem?_setIfInBounds_self_of_lt (by simpa using hs)]
 . exact hown'.kept (row:=some g) ⟨rfl,rfl,rfl,by simp[World.setCell],fun k _ hk=>Below.heap_setCell _ _ _ _ (fun e=>hk (by simp[e]))⟩ (Or.inr (Lib.ownBlock_ne hown' hb2 ht))
theorem Jv {w:World} {B:Nat} {e:TypeId} {v:Value} {n:Nat} {xs:List Value} (h:w.ownsRow B e 1 v n xs): ∀g,v.ownBlock=some g-> ∃c fz,w.heap[g]? =some (.cells c e fz):=by
 intro g hg;rcases h.2 with⟨rfl,_⟩|⟨g',cap,cur,rfl,_,hgg,_⟩
 . simp[Value.ownBlock]at hg
 . simp[Value.ownBlock]at hg;subst hg;exact⟨cur,_,hgg⟩
theorem Ie (a b:List UInt8):Lib.byteCells (a++b)=Lib.byteCells a++Lib.byteCells b:=by simp[Lib.byteCells]
set_option maxRecDepth 100000 in
theorem Kn (B g o:Nat) (t:TypeId) (cs:Array Value) (bs:List UInt8) (s:ByteArray) (w:World) (h:O8 w B g o t cs bs) (hl:liesAt Tryz.prog Tryz.prog.depth t (cs.size / Tryz.prog.cellsOf t) o 128 1=true)
 (hlen:bs.length+s.size<=140737488355328) (hBw:B<=w.heap.size):
 Calls Tryz.prog 160 #[.pointer (some ⟨g,o,none⟩),.string s] w fun e w'=>e=.returned (.tuple #[.int .i64 s.size,.nilIface])/\
  (∃v,O8 w' B g o t (Oc g o cs v) (bs++s.data.toList))/\Below B w w'/\E8 g w w':=by
 obtain⟨i0,hi,hz0,hz1,hz2⟩:=info_parts infoByte;have hos:o+1<cs.size:=h.2.2.2.1;go_enter Tryz.func160,Tryz.ntmps160;go_wp2_with (go_at_call 188;refine(Jc B g o t cs bs _ h hl).mono ?_);rintro e w1 ⟨rfl,h1,hb1,hk1⟩;have h1':=h1;obtain⟨hB,hbk,ht,hs,h0,v,hv,hown⟩:=h1;have c1:w1.cell? ⟨g,o+1,none⟩=some v:=by rw[Lib.cell_of_heap hbk];exact hv
 clear h hv h0;go_wp2_with (at_builtin;refine Lib.wpList_append_own_string _ rfl _ _ 25 9 rfl B 5 i0 Tryz.underlying25 Tryz.underlying9 hi hz0 hz1 hz2 _ _ _ rfl hown s rfl ?c3 ?c4 ?c5 ?_)
 case c3=>unfold maxLen;omega
 case c4=>omega
 case c5=>have:=hb1.size;omega
 intro v' w2 hown' hgrow _;have hne:=Lib.ownBlock_ne hown hbk ht;have hlt:g<w1.heap.size:=h1'.lt;have hb2:w2.heap[g]? =some (.cells (cs.setIfInBounds o (.pointer (some ⟨g,o,none⟩))) t (0,0)):=by
  rw[hgrow.block g hlt (fun e=>hne e.symm)];exact hbk
 have d1:w2.cell? ⟨g,o+1,none⟩=some v:=by rw[Lib.cell_of_heap hb2,<-Lib.cell_of_heap hbk];exact c1
 have f1:w2.frozen? ⟨g,o+1,none⟩=false:=Lib.frozen_of_heap hb2 _;have hk2:=hk1.grown hgrow (Jv hown);have hbw2:=hb1.grown hgrow (by have:=hb1.size;omega) (fun k hk=>(hown.lt k hk).1);obtain⟨ao,n',cap,rfl⟩: ∃ao n' cap,v'=.slice ao n' cap:=by
  rcases hown'.2 with⟨hv,_⟩|⟨g,cap,cur,hv,_⟩
  . exact⟨_,_,_,hv⟩
  . exact⟨_,_,_,hv⟩
 have hfin:=O8.put h1' hos hb2 (bs':=bs++s.data.toList) (v':=.slice ao n' cap) (by
  rw[Ie,List.length_append];have e:s.data.toList.length=s.size:=by rw[<-Lib.size_eq]
  rw[e];exact hown')
 clear hown hown' hgrow c1 hbk hb2 h1' hb1 hk1 hne;go_wp2;go_ret2;exact⟨rfl,⟨_,hfin⟩,hbw2.setCell (p:=⟨g,o+1,none⟩) hB _,hk2.setCell ⟨g,o+1,none⟩ rfl _⟩
set_option maxRecDepth 100000 in
theorem Sn (B g o:Nat) (t:TypeId) (cs:Array Value) (bs:List UInt8) (c:Int) (hc0:0<=c) (hc1:c<256) (w:World) (h:O8 w B g o t cs bs) (hl:liesAt Tryz.prog Tryz.prog.depth t (cs.size / Tryz.prog.cellsOf t) o 128 1=true)
 (hlen:bs.length+1<=140737488355328) (hBw:B<=w.heap.size):
 Calls Tryz.prog 193 #[.pointer (some ⟨g,o,none⟩),.int .u8 c] w fun e w'=>e=.returned .nilIface/\
  (∃v,O8 w' B g o t (Oc g o cs v) (bs++ [UInt8.ofNat c.toNat]))/\Below B w w'/\E8 g w w':=by
 obtain⟨i0,hi,hz0,hz1,hz2⟩:=info_parts infoByte;have hos:o+1<cs.size:=h.2.2.2.1;go_enter Tryz.func193,Tryz.ntmps193;go_wp2_with (go_at_call 188;refine(Jc B g o t cs bs _ h hl).mono ?_);rintro e w1 ⟨rfl,h1,hb1,hk1⟩;have h1':=h1;obtain⟨hB,hbk,ht,hs,h0,v,hv,hown⟩:=h1;have c1:w1.cell? ⟨g,o+1,none⟩=some v:=by rw[Lib.cell_of_heap hbk];exact hv
 clear h hv h0;go_wp2_with (at_builtin;refine wpList_append_own _ rfl _ _ 25 rfl B 5 i0 (.int .u8 0) 1 1 Tryz.underlying25 hi hz0 hz1 hz2 rfl (by decide) _ _ _ rfl (hown.alloc _) ⟨w1.heap.size,0,none⟩ 1 1 [.int .u8 c] rfl rfl ?c1 ?c2 ?c3 ?c4 ?c5 ?_)
 case c1=>
  intro j u hj
  match j,hj with
  |0,hj=>simp at hj;subst hj;simp[Addr.add]
 case c2=>intro u hu;simp at hu;subst hu;rfl
 case c3=>unfold maxLen;omega
 case c4=>omega
 case c5=>have:=hb1.size;simp;omega
 intro v' w2 hown' hgrow _;have hne:=Lib.ownBlock_ne hown hbk ht;have hlt:g<w1.heap.size:=h1'.lt;have hb2:w2.heap[g]? =some (.cells (cs.setIfInBounds o (.pointer (some ⟨g,o,none⟩))) t (0,0)):=by
  rw[hgrow.block g (by simp;omega) (fun e=>hne e.symm),Lib.alloc_old w1 _ g hlt];exact hbk
 have d1:w2.cell? ⟨g,o+1,none⟩=some v:=by rw[Lib.cell_of_heap hb2,<-Lib.cell_of_heap hbk];exact c1
 have f1:w2.frozen? ⟨g,o+1,none⟩=false:=Lib.frozen_of_heap hb2 _;have hk2:=(hk1.alloc _).grown hgrow (Jv (hown.alloc _));have hbw2:=(hb1.alloc (by have:=hb1.size;omega) _).grown hgrow (by have:=hb1.size;simp;omega) (fun k hk=>(hown.lt k hk).1);obtain⟨ao,n',cap,rfl⟩: ∃ao n' cap,v'=.slice ao n' cap:=by
  rcases hown'.2 with⟨hv,_⟩|⟨g,cap,cur,hv,_⟩
  . exact⟨_,_,_,hv⟩
  . exact⟨_,_,_,hv⟩
 have hfin:=O8.put h1' hos hb2 (bs':=bs++ [UInt8.ofNat c.toNat]) (v':=.slice ao n' cap) (by
  rw[Ie,List.length_append];have e:Lib.byteCells [UInt8.ofNat c.toNat]= [.int .u8 c]:=by
   simp[Lib.byteCells];omega
  rw[e];exact hown')
 clear hown hown' hgrow c1 hbk hb2 h1' hb1 hk1 hne;go_wp2;go_ret;exact⟨rfl,⟨_,hfin⟩,hbw2.setCell (p:=⟨g,o+1,none⟩) hB _,hk2.setCell ⟨g,o+1,none⟩ rfl _⟩
theorem S8 (r:Int):Lib.runeCells r=Lib.byteCells (Lib.encodeRune r):=(Lib.byteCells_encodeRune r).symm
set_option maxRecDepth 100000 in
theorem So (B g o:Nat) (t:TypeId) (cs:Array Value) (bs:List UInt8) (r:Int) (hr0: -2147483648<=r) (hr1:r<=2147483647) (w:World) (h:O8 w B g o t cs bs) (hl:liesAt Tryz.prog Tryz.prog.depth t (cs.size / Tryz.prog.cellsOf t) o 128 1=true)
 (hlen:bs.length+4<=140737488355328) (hBw:B<=w.heap.size):
 Calls Tryz.prog 196 #[.pointer (some ⟨g,o,none⟩),.int .i32 r] w fun e w'=>(∃k:Int,e=.returned (.tuple #[.int .i64 k,.nilIface]))/\
  (∃v,O8 w' B g o t (Oc g o cs v) (bs++Lib.encodeRune r))/\Below B w w'/\E8 g w w':=by
 have hos:o+1<cs.size:=h.2.2.2.1;go_enter Tryz.func196,Tryz.ntmps196;go_wp2_with (go_at_call 188;refine(Jc B g o t cs bs _ h hl).mono ?_);rintro e w1 ⟨rfl,h1,hb1,hk1⟩;have h1':=h1;obtain⟨hB,hbk,ht,hs,h0,v,hv,hown⟩:=h1;have c1:w1.cell? ⟨g,o+1,none⟩=some v:=by rw[Lib.cell_of_heap hbk];exact hv
 clear h hv h0;obtain⟨ao,n0,cap,rfl⟩: ∃ao n' cap,v=.slice ao n' cap:=by
  rcases hown.2 with⟨hv,_⟩|⟨g,cap,cur,hv,_⟩
  . exact⟨_,_,_,hv⟩
  . exact⟨_,_,_,hv⟩
 go_wp2_with (go_at_call 220;refine(Tryz.utf8_AppendRune_plain B _ _ _ r hr0 hr1 _ hown (by omega) (by have:=hb1.size;omega)).mono ?_);rintro e w2 ⟨v',rfl,hown',ob,hgrow⟩;have hne:=Lib.ownBlock_ne hown hbk ht;have hlt:g<w1.heap.size:=h1'.lt;have hb2:w2.heap[g]? =some (.cells (cs.setIfInBounds o (.pointer (some ⟨g,o,none⟩))) t (0,0)):=by
  rw[hgrow.block g (by simp;omega) (fun e=>hne e.symm),Lib.alloc_old w1 _ g hlt];exact hbk
 have d1:w2.cell? ⟨g,o+1,none⟩=some (.slice ao n0 cap):=by rw[Lib.cell_of_heap hb2,<-Lib.cell_of_heap hbk];exact c1
 have f1:w2.frozen? ⟨g,o+1,none⟩=false:=Lib.frozen_of_heap hb2 _;have hk2:=(hk1.alloc ob).grown hgrow (Jv (hown.alloc _));have hbw2:=(hb1.alloc (by have:=hb1.size;omega) ob).grown hgrow (by have:=hb1.size;simp;omega) (fun k hk=>(hown.lt k hk).1);obtain⟨ao',n',cap',rfl⟩: ∃ao n' cap,v'=.slice ao n' cap:=by
  rcases hown'.2 with⟨hv,_⟩|⟨g,cap,cur,hv,_⟩
  . exact⟨_,_,_,hv⟩
  . exact⟨_,_,_,hv⟩
 have hfin:=O8.put h1' hos hb2 (bs':=bs++Lib.encodeRune r) (v':=.slice ao' n' cap') (by
  rw[Ie,List.length_append];rw[S8]at hown';simpa[Lib.byteCells]using hown')
 have e1:(w2.setCell ⟨g,o+1,none⟩ (.slice ao' n' cap')).cell? ⟨g,o+1,none⟩=some (.slice ao' n' cap'):=World.cell?_setCell_same' _ _ _ (by rw[d1];rfl);clear hown hown' hgrow c1 hbk hb2 h1' hb1 hk1 hne;go_wp2;go_ret2;exact⟨⟨_,rfl⟩,⟨_,hfin⟩,hbw2.setCell (p:=⟨g,o+1,none⟩) hB _,hk2.setCell ⟨g,o+1,none⟩ rfl _⟩
set_option maxRecDepth 100000 in
theorem Pe (B g o:Nat) (t:TypeId) (cs:Array Value) (l:List UInt8) (w:World) (h:O8 w B g o t cs l) (hl0:l≠ []):
 Calls Tryz.prog 75 #[.pointer (some ⟨g,o,none⟩)] w fun e w'=>e=.returned (.string ⟨l.toArray⟩)/\Below B w w'/\E8 g w w':=by
 obtain⟨hB,hbk,ht,hs,h0,v,hv,hown⟩:=h;have hl1:l.length≠0:=by simpa using hl0
 obtain⟨gg,cap,cur,rfl,hbg,hg,hnc,hcm,hcs,htake⟩: ∃gg cap cur,v=.slice (some ⟨gg,0,none⟩) l.length cap/\B<=gg/\w.heap[gg]? =some (.cells cur 5 (0,0))/\l.length<=cap/\cap<=maxLen/\cur.size=cap*1/\cur.toList.take (l.length*1)=Lib.byteCells l:=by
  rcases hown.2 with⟨_,hz⟩|⟨gg,cap,cur,hv,r⟩
  . exact absurd hz hl1
  . exact⟨gg,cap,cur,hv,r⟩
 have c1:w.drew.cell? ⟨g,o+1,none⟩=some (.slice (some ⟨gg,0,none⟩) l.length cap):=by
  have:w.drew.heap[g]? =some (.cells cs t (0,0)):=hbk;rw[Lib.cell_of_heap this];exact hv
 have hSD:(Builtin.unsafeSliceData_ #[25] 190 #[.slice (some ⟨gg,0,none⟩) l.length cap]).run Tryz.prog w.drew=.ok (.pointer (some ⟨gg,0,none⟩)) w.drew:=
  Lib.run_unsafeSliceData_row _ _ _ _ _ _ (by omega)
 have hUS:(Builtin.unsafeString_ #[190,3] 9 #[.pointer (some ⟨gg,0,none⟩),.int .i64 l.length]).run Tryz.prog w.drew=.ok (.string ⟨l.toArray⟩) (w.drew.freeze ⟨gg,0,none⟩ l.length):=by
  refine Lib.run_unsafeString_row w.drew 190 3 9 5 Tryz.underlying190 (by kernel_rfl) gg cur.size (by have hg':w.drew.heap[gg]? =some (.cells cur 5 (0,0)):=hg;simp[World.shape?,hg']) l hl0 (by omega) (by unfold maxLen at hcm;omega) ?_;intro j x hx;have:=hown.cells (g:=gg) rfl j (.int .u8 x.toNat) (by simp[Lib.byteCells,hx]);exact this
 clear hv h0;go_enter Tryz.func75,Tryz.ntmps75;go_wp2;go_region
 all_goals(go_wp2;go_ret;exact⟨rfl,Lib.below_freeze (Below.drew (Below.refl B w)) (p:=⟨gg,0,none⟩) hbg _,((Lib.OthersKept.refl _ _ w).drew).freeze ⟨gg,0,none⟩ _ ⟨cur,_,hg⟩⟩)
end Go.Proofs.YtackmnbpfbaemaaGreatDoor
namespace Go.Proofs.YtackmnbpfbaemaaGreatDoor
open Go.RowKit
def Afc {α β:Type} (P:Program) (gf:Nat) (lb:Array Value) (encs:α->β->Array Value) (E:α->β->World->Prop) (xs:List α) (N:World->Prop):Prop:=
 ∀(n l:Nat) (J:List α->World->Prop) (W:World),(∀s A B,J s A->Below A.heap.size A B->J s B)->(∀s A,J s A->N A)->
  (∀pre x rest q A,xs=pre++x::rest->J pre A->E x q A->YieldAt Fence.wide n P l (encs x q) A fun e B=>e=.returned (.bool true)/\J (pre++ [x]) B)->
  J [] W->CallsIn Fence.wide (n+1) P gf (#[.func (.yield l) #[] #[]]++lb) W fun e B=>(∃v,e=.returned v)/\J xs B
theorem V1 {α β:Type} {P:Program} {g:Operand} {ps:Array Tmp} {assign body:Code} {Q:Exit->Act->World->Prop} {a:Act} {w:World} {n:Nat}
 {gf:Nat} {lb:Array Value} (hg:a.eval g=.func (.func gf) #[] lb) (eg: ∀args w,(callFunc gf args).run P w=.ok (.enter gf args) w)
 {encs:α->β->Array Value} {E:α->β->World->Prop} {xs:List α} {N:World->Prop} (hit:Afc P gf lb encs E xs N) (hps: ∀x q,(encs x q).size=ps.size)
 (hEp: ∀x q A k o o',E x q A->A.heap[k]? =some o->o.isCells=false->E x q (A.putObj k o'))
 (I:List α->World->Prop) (hIn: ∀s A B,I s A->Below A.heap.size A B->I s B)
 (hIp: ∀s A k o o',I s A->A.heap[k]? =some o->o.isCells=false->(k=w.heap.size\/k=w.heap.size+1)->I s (A.putObj k o'))
 (hIb: ∀s A,I s A->N A) (h0:I [] w) (a₁:α->β->Act)
 (hassign: ∀(l:Nat) (x:α) (q:β) (W:World) (K:Act->World->Prop),K (a₁ x q) W->
   assign.wpIn (Fence.wide.inRound l) n P (Exit.then K (fun _ _ _=>False)) {tmps:=(ps.zip (encs x q)).foldl (fun t (p,v)=>t.setIfInBounds p v) a.tmps,defers:= []} W)
 (hbody: ∀(l:Nat) (pre:List α) (x:α) (rest:List α) (q:β) (W:World),xs=pre++x::rest->I pre W->E x q W->(∃ds,W.heap[w.heap.size]? =some (.deferred ds))->(∃r,W.heap[w.heap.size+1]? =some (.loop r))->
   body.wpIn (Fence.wide.inRound l) n P (Ye (I (pre++ [x])) w.heap.size W) (a₁ x q) W)
 (hdone: ∀(W:World),I xs W->W.heap[w.heap.size]? =some (.deferred (some []))->Q .normal {a with defers:={target:=.collected w.heap.size,args:= #[]}::a.defers} W):
 (Code.rangeFunc g ps assign body).wpIn Fence.wide (n+1+1) P Q a w:=by
 refine wpIn_rangeFunc ?_;intro fn hfn;have hro:Fence.wide.round=none:=rfl;rw[hro];obtain⟨rec,hrec⟩: ∃rec:LoopState->Option Code->Loop,rec=fun st pe=>{state:=st,pending:=pe,fn,tmps:=a.tmps,params:=ps,assign,body,defers:=w.heap.size}:=⟨_,rfl⟩;obtain⟨W1,hW1⟩: ∃W1,(w.alloc (.deferred (some []))).alloc (.loop (rec .ready none))=W1:=⟨_,rfl⟩;have hL1:W1.heap[w.heap.size+1]? =some (.loop (rec .ready none)):=by
  rw[<-hW1];have:=World.alloc_heap_new (w.alloc (.deferred (some []))) (.loop (rec .ready none));rwa [World.size_alloc]at this
 have hK1:W1.heap[w.heap.size]? =some (.deferred (some [])):=by
  rw[<-hW1];exact(Below.heap_alloc _ _ _ (by simp)).trans (World.alloc_heap_new w _)
 have hI1:I [] W1:=by
  rw[<-hW1];exact hIn _ _ _ h0 (((Below.refl _ w).alloc (Nat.le_refl _) _).alloc (by simp) _)
 refine⟨w.heap.size+1, [{target:=.collected w.heap.size,args:= #[]}],W1,{target:=.fn (.func gf) lb,args:= #[.func (.yield (w.heap.size+1)) #[] #[]]},W1,gf,
  #[.func (.yield (w.heap.size+1)) #[] #[]]++lb,W1, ?_, ?_, ?_, ?_,fun h=>by simp[Fence.wide]at h, ?_⟩
 . rw[<-hW1,hrec];exact run_enterLoop_outer _ _ _ _ _
 . simp only[resolve,hg];simp[go_sem]
 . intro f' _;trivial
 . simp[invoke,go_sem,eg]
 . refine(hit n (w.heap.size+1)
    (fun pre W=>I pre W/\W.heap[w.heap.size+1]? =some (.loop (rec .ready none))/\W.heap[w.heap.size]? =some (.deferred (some [])))
    W1 (fun s A B hs hb=>⟨hIn s A B hs.1 hb,(hb.block _ (Array.getElem?_eq_some_iff.1 hs.2.1).1).trans hs.2.1,(hb.block _ (Array.getElem?_eq_some_iff.1 hs.2.2).1).trans hs.2.2⟩)
    (fun s A hs=>hIb s A hs.1) ?_ ⟨hI1,hL1,hK1⟩).mono ?_
   ·
    rintro pre x rest q W hx ⟨hi,hl,hk⟩ hE;have hlt:w.heap.size+1<W.heap.size:=(Array.getElem?_eq_some_iff.1 hl).1;have hy:=run_yield (P:=P) (args:=encs x q) hl (by rw[hrec];exact hps x q);rw[hrec]at hy;refine⟨fn,_,assign,body,hy,roundIn_of_wpIn trivial (hassign _ x q W _ ⟨_,run_beginRound hl (by rw[hrec]), ?_⟩)⟩;have hl2:(W.putObj (w.heap.size+1) (.loop {rec .ready none with state:=.busy})).heap[w.heap.size+1]? =some (.loop {rec .ready none with state:=.busy}):=World.putObj_heap_same hlt;have hk2:(W.putObj (w.heap.size+1) (.loop {rec .ready none with state:=.busy})).heap[w.heap.size]? =some (.deferred (some [])):=(World.putObj_heap_other (by omega)).trans hk;refine wpIn_mono (hbody _ pre x rest q _ hx (hIp _ _ _ _ _ hi hl rfl (.inr rfl)) (hEp _ _ _ _ _ _ hE hl rfl) ⟨_,hk2⟩ ⟨_,hl2⟩) ?_;rintro e a3 W3 hp
    cases e with
    |normal=>
     obtain⟨h1,h2,hi3⟩:=hp;have hl3:=h2.trans hl2;have hk3:=h1.trans hk2;have hr:=run_endRound (P:=P) none hl3;rw[hrec]at hr;refine⟨_,_,hr,rfl,hIp _ _ _ _ _ hi3 hl3 rfl (.inr rfl), ?_, ?_⟩
     . rw[World.putObj_heap_same (Array.getElem?_eq_some_iff.1 hl3).1,hrec];rfl
     . exact(World.putObj_heap_other (by omega)).trans hk3
    |ret=>exact hp.elim
    |exit id=>exact hp.elim
    |goto t=>exact hp.elim
    |panic ch=>exact hp.elim
    |outgrown=>exact hp.elim
   ·
    rintro e W2 ⟨⟨v,rfl⟩,hi,hl,hk⟩;exact⟨none,_,by have:=run_endLoop (P:=P) hl (by rw[hrec];simp);rw[hrec]at this;exact this,hdone _ (hIp _ _ _ _ _ hi hl rfl (.inr rfl)) ((World.putObj_heap_other (by omega)).trans hk)⟩
end Go.Proofs.YtackmnbpfbaemaaGreatDoor
