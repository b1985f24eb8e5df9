/- Parts: The tables and the two errors that the rows list: a world for the witnesses. No condition. -/
import Derived.Test.YtdbejcbbhomdbaaGreatDoorProg
import Derived.Lib.Hide
import Derived.WalkKit
import Derived.Below
import Derived.Laws.AppendOwn
import Derived.Lib.Builder
import Derived.Deep.RegionHeld3
import Derived.Lib.RuneBytes
import Derived.IntWalk
import Derived.Laws.IdiomStrings
import Derived.Test.YtdbejcbbhomdbaaGreatDoorChecked
import Derived.Test.YtdbejcbbhomdbaaGreatDoorRows
import Derived.Lay
import Derived.Lib.LaidIn
import Derived.Lib.LaidU8T
import Derived.LaidSub
import Derived.Lib.ItoaNum
import Derived.Deep.DeepHandedRow
import Derived.ProofKit
set_option maxHeartbeats 20000000
namespace Go.Proofs.YtdbejcbbhomdbaaGreatDoor
open Go Go.RowKit
theorem tk1 {α:Type} {xs:List α} {i:Nat} (h:i<xs.toArray.size):xs.toArray[i]=xs[i]'(by simpa using h):=List.getElem_toArray h
theorem tk2 {α:Type} (a:α) (l:List α) (i:Nat) (h:i+1<(a::l).length):(a::l)[i+1]=l[i]'(by simpa using h):=List.getElem_cons_succ a l i h
theorem tk3 {α:Type} (a:α) (l:List α) (h:0<(a::l).length):(a::l)[0]=a:=List.getElem_cons_zero a l h
theorem tk4 {α:Type} (l:List α) (i:Nat) (a:α):l.toArray.setIfInBounds i a=(l.set i a).toArray:=List.setIfInBounds_toArray l i a
theorem tk5 {α:Type} {x:α} {xs:List α} {a:α}:(x::xs).set 0 a=a::xs:=rfl
theorem tk6 {α:Type} {x:α} {xs:List α} {i:Nat} {a:α}:(x::xs).set (i+1) a=x::xs.set i a:=rfl
theorem qz {p:Prop} (h:p):Hid p:=Lib.hid h
theorem hid2 {p0 p1:Prop} (x0:p0) (x1:p1):Hid p0/\Hid p1:=⟨Lib.hid x0,Lib.hid x1⟩
theorem hid3 {p0 p1 p2:Prop} (x0:p0) (x1:p1) (x2:p2):Hid p0/\Hid p1/\Hid p2:=⟨Lib.hid x0,Lib.hid x1,Lib.hid x2⟩
theorem hid4 {p0 p1 p2 p3:Prop} (x0:p0) (x1:p1) (x2:p2) (x3:p3):Hid p0/\Hid p1/\Hid p2/\Hid p3:=⟨Lib.hid x0,Lib.hid x1,Lib.hid x2,Lib.hid x3⟩
theorem hid5 {p0 p1 p2 p3 p4:Prop} (x0:p0) (x1:p1) (x2:p2) (x3:p3) (x4:p4):Hid p0/\Hid p1/\Hid p2/\Hid p3/\Hid p4:=⟨Lib.hid x0,Lib.hid x1,Lib.hid x2,Lib.hid x3,Lib.hid x4⟩
theorem hid6 {p0 p1 p2 p3 p4 p5:Prop} (x0:p0) (x1:p1) (x2:p2) (x3:p3) (x4:p4) (x5:p5):Hid p0/\Hid p1/\Hid p2/\Hid p3/\Hid p4/\Hid p5:=⟨Lib.hid x0,Lib.hid x1,Lib.hid x2,Lib.hid x3,Lib.hid x4,Lib.hid x5⟩
theorem hid7 {p0 p1 p2 p3 p4 p5 p6:Prop} (x0:p0) (x1:p1) (x2:p2) (x3:p3) (x4:p4) (x5:p5) (x6:p6):Hid p0/\Hid p1/\Hid p2/\Hid p3/\Hid p4/\Hid p5/\Hid p6:=⟨Lib.hid x0,Lib.hid x1,Lib.hid x2,Lib.hid x3,Lib.hid x4,Lib.hid x5,Lib.hid x6⟩
theorem hid8 {p0 p1 p2 p3 p4 p5 p6 p7:Prop} (x0:p0) (x1:p1) (x2:p2) (x3:p3) (x4:p4) (x5:p5) (x6:p6) (x7:p7):Hid p0/\Hid p1/\Hid p2/\Hid p3/\Hid p4/\Hid p5/\Hid p6/\Hid p7:=⟨Lib.hid x0,Lib.hid x1,Lib.hid x2,Lib.hid x3,Lib.hid x4,Lib.hid x5,Lib.hid x6,Lib.hid x7⟩
theorem hid9 {p0 p1 p2 p3 p4 p5 p6 p7 p8:Prop} (x0:p0) (x1:p1) (x2:p2) (x3:p3) (x4:p4) (x5:p5) (x6:p6) (x7:p7) (x8:p8):Hid p0/\Hid p1/\Hid p2/\Hid p3/\Hid p4/\Hid p5/\Hid p6/\Hid p7/\Hid p8:=⟨Lib.hid x0,Lib.hid x1,Lib.hid x2,Lib.hid x3,Lib.hid x4,Lib.hid x5,Lib.hid x6,Lib.hid x7,Lib.hid x8⟩
theorem hid10 {p0 p1 p2 p3 p4 p5 p6 p7 p8 p9:Prop} (x0:p0) (x1:p1) (x2:p2) (x3:p3) (x4:p4) (x5:p5) (x6:p6) (x7:p7) (x8:p8) (x9:p9):Hid p0/\Hid p1/\Hid p2/\Hid p3/\Hid p4/\Hid p5/\Hid p6/\Hid p7/\Hid p8/\Hid p9:=⟨Lib.hid x0,Lib.hid x1,Lib.hid x2,Lib.hid x3,Lib.hid x4,Lib.hid x5,Lib.hid x6,Lib.hid x7,Lib.hid x8,Lib.hid x9⟩
theorem hid11 {p0 p1 p2 p3 p4 p5 p6 p7 p8 p9 p10:Prop} (x0:p0) (x1:p1) (x2:p2) (x3:p3) (x4:p4) (x5:p5) (x6:p6) (x7:p7) (x8:p8) (x9:p9) (x10:p10):Hid p0/\Hid p1/\Hid p2/\Hid p3/\Hid p4/\Hid p5/\Hid p6/\Hid p7/\Hid p8/\Hid p9/\Hid p10:=⟨Lib.hid x0,Lib.hid x1,Lib.hid x2,Lib.hid x3,Lib.hid x4,Lib.hid x5,Lib.hid x6,Lib.hid x7,Lib.hid x8,Lib.hid x9,Lib.hid x10⟩
theorem hid16 {p0 p1 p2 p3 p4 p5 p6 p7 p8 p9 p10 p11 p12 p13 p14 p15:Prop} (x0:p0) (x1:p1) (x2:p2) (x3:p3) (x4:p4) (x5:p5) (x6:p6) (x7:p7) (x8:p8) (x9:p9) (x10:p10) (x11:p11) (x12:p12) (x13:p13) (x14:p14) (x15:p15):Hid p0/\Hid p1/\Hid p2/\Hid p3/\Hid p4/\Hid p5/\Hid p6/\Hid p7/\Hid p8/\Hid p9/\Hid p10/\Hid p11/\Hid p12/\Hid p13/\Hid p14/\Hid p15:=⟨Lib.hid x0,Lib.hid x1,Lib.hid x2,Lib.hid x3,Lib.hid x4,Lib.hid x5,Lib.hid x6,Lib.hid x7,Lib.hid x8,Lib.hid x9,Lib.hid x10,Lib.hid x11,Lib.hid x12,Lib.hid x13,Lib.hid x14,Lib.hid x15⟩
inductive Val where
 |mk (k:Int) (b:Bool) (n:Int) (t:ByteArray) (l:List Val) (o:List (ByteArray×Val))
abbrev C0 (k:Int) (b:Bool) (n:Int) (t:ByteArray) (la:Option Addr) (ln lc:Nat) (oa:Option Addr) (on oc:Nat):List Value:=
 [.int .i64 k,.bool b,.int .i64 n,.string t,.slice la ln lc,.slice oa on oc]
mutual
def Aa (w:World) (B:Nat):Val->List Value->Prop
 | .mk k b n t l o,cs=> ∃la lc oa oc,cs=C0 k b n t la l.length lc oa o.length oc/\
    (l= []\/ ∃g off,la=some ⟨g,off,none⟩/\g<B/\Ai w B l g off)/\
    (o= []\/ ∃g off,oa=some ⟨g,off,none⟩/\g<B/\Ak w B o g off)
def Ai (w:World) (B:Nat):List Val->Nat->Nat->Prop
 | [],_,_=>True
 |v::r,g,off=>(∃cs,Aa w B v cs/\ ∀j u,cs[j]? =some u->w.cell? ⟨g,off+j,none⟩=some u)/\Ai w B r g (off+6)
def Ak (w:World) (B:Nat):List (ByteArray×Val)->Nat->Nat->Prop
 | [],_,_=>True
 |p::r,g,off=>Ih w B p g off/\Ak w B r g (off+7)
def Ih (w:World) (B:Nat):ByteArray×Val->Nat->Nat->Prop
 |(key,v),g,off=>w.cell? ⟨g,off,none⟩=some (.string key)/\ ∃cs,Aa w B v cs/\ ∀j u,cs[j]? =some u->w.cell? ⟨g,off+1+j,none⟩=some u
end
mutual
def Val.bulk:Val->Nat
 | .mk _ _ _ t l o=>6+t.size+A6 l+Ag o
def A6:List Val->Nat
 | []=>0
 |v::r=>v.bulk+A6 r
def Ag:List (ByteArray×Val)->Nat
 | []=>0
 |p::r=>Ez p+Ag r
def Ez:ByteArray×Val->Nat
 |(key,v)=>1+key.size+v.bulk
end
theorem Val.ind {p:Val->Prop} (h: ∀k b n t l o,(∀v ∈ l,p v)->(∀m ∈ o,p m.2)->p (.mk k b n t l o)): ∀v,p v:=by
 intro v;refine Val.rec (motive_1:=p) (motive_2:=fun l=> ∀v ∈ l,p v) (motive_3:=fun o=> ∀m ∈ o,p m.2) (motive_4:=fun m=>p m.2) ?_ ?_ ?_ ?_ ?_ ?_ v
 . intro k b n t l o hl ho;exact h k b n t l o hl ho
 . intro v hv
   cases hv
 . intro v r hv hr x hx;rcases List.mem_cons.1 hx with rfl|hx
   . exact hv
   . exact hr x hx
 . intro m hm
   cases hm
 . intro m r hm hr x hx;rcases List.mem_cons.1 hx with rfl|hx
   . exact hm
   . exact hr x hx
 . intro k v hv;exact hv
theorem Ai.of_keep {w w':World} {B:Nat} (hk: ∀p:Addr,p.block<B->w'.cell? p=w.cell? p):
 ∀(l:List Val),(∀v ∈ l,∀cs,Aa w B v cs->Aa w' B v cs)-> ∀g off,g<B->Ai w B l g off->Ai w' B l g off
 | [],_,_,_,_,_=>by simp[Ai]
 |v::r,ih,g,off,hg,h=>by
  simp only[Ai]at h ⊢;obtain⟨⟨cs,hv,hc⟩,hr⟩:=h;exact⟨⟨cs,ih v (by simp) cs hv,fun j u hu=>(hk _ hg).trans (hc j u hu)⟩,Ai.of_keep hk r (fun x hx=>ih x (by simp[hx])) g _ hg hr⟩
theorem Ak.of_keep {w w':World} {B:Nat} (hk: ∀p:Addr,p.block<B->w'.cell? p=w.cell? p):
 ∀(l:List (ByteArray×Val)),(∀m ∈ l,∀cs,Aa w B m.2 cs->Aa w' B m.2 cs)-> ∀g off,g<B->Ak w B l g off->Ak w' B l g off
 | [],_,_,_,_,_=>by simp[Ak]
 |(key,v)::r,ih,g,off,hg,h=>by
  simp only[Ak,Ih]at h ⊢;obtain⟨⟨h0,cs,hv,hc⟩,hr⟩:=h;exact⟨⟨(hk _ hg).trans h0,cs,ih (key,v) (by simp) cs hv,fun j u hu=>(hk _ hg).trans (hc j u hu)⟩,Ak.of_keep hk r (fun x hx=>ih x (by simp[hx])) g _ hg hr⟩
theorem Aa.keep {w w':World} {B:Nat} (hk: ∀p:Addr,p.block<B->w'.cell? p=w.cell? p): ∀(v:Val) cs,Aa w B v cs->Aa w' B v cs:=by
 refine Val.ind ?_;intro k b n t l o hl ho cs h;simp only[Aa]at h ⊢;obtain⟨la,lc,oa,oc,hcs,h1,h2⟩:=h;refine⟨la,lc,oa,oc,hcs, ?_, ?_⟩
 . rcases h1 with h1|⟨g,off,ha,hg,h1⟩
   . exact .inl h1
   . exact .inr ⟨g,off,ha,hg,Ai.of_keep hk l hl g off hg h1⟩
 . rcases h2 with h2|⟨g,off,ha,hg,h2⟩
   . exact .inl h2
   . exact .inr ⟨g,off,ha,hg,Ak.of_keep hk o ho g off hg h2⟩
theorem Aa.below {w w':World} {B:Nat} {v:Val} {cs:List Value} (h:Aa w B v cs) (hb:Below B w w'):Aa w' B v cs:=Aa.keep (fun _ hp=>hb.cell hp) v cs h
theorem Ai.keep {w w':World} {B:Nat} (hk: ∀p:Addr,p.block<B->w'.cell? p=w.cell? p) {l:List Val} {g off:Nat} (hg:g<B) (h:Ai w B l g off):Ai w' B l g off:=
 Ai.of_keep hk l (fun v _=>Aa.keep hk v) g off hg h
theorem Ak.keep {w w':World} {B:Nat} (hk: ∀p:Addr,p.block<B->w'.cell? p=w.cell? p) {l:List (ByteArray×Val)} {g off:Nat} (hg:g<B) (h:Ak w B l g off):Ak w' B l g off:=
 Ak.of_keep hk l (fun m _=>Aa.keep hk m.2) g off hg h
theorem Ai.below {w w':World} {B:Nat} {l:List Val} {g off:Nat} (hg:g<B) (h:Ai w B l g off) (hb:Below B w w'):Ai w' B l g off:=Ai.keep (fun _ hp=>hb.cell hp) hg h
theorem Ak.below {w w':World} {B:Nat} {l:List (ByteArray×Val)} {g off:Nat} (hg:g<B) (h:Ak w B l g off) (hb:Below B w w'):Ak w' B l g off:=Ak.keep (fun _ hp=>hb.cell hp) hg h
theorem Ai.of_more {w:World} {B B':Nat}: ∀(l:List Val),(∀v ∈ l,∀cs,Aa w B v cs->Aa w B' v cs)-> ∀g off,Ai w B l g off->Ai w B' l g off
 | [],_,_,_,_=>by simp[Ai]
 |v::r,ih,g,off,h=>by
  simp only[Ai]at h ⊢;obtain⟨⟨cs,hv,hc⟩,hr⟩:=h;exact⟨⟨cs,ih v (by simp) cs hv,hc⟩,Ai.of_more r (fun x hx=>ih x (by simp[hx])) g _ hr⟩
theorem Ak.of_more {w:World} {B B':Nat}: ∀(l:List (ByteArray×Val)),(∀m ∈ l,∀cs,Aa w B m.2 cs->Aa w B' m.2 cs)-> ∀g off,Ak w B l g off->Ak w B' l g off
 | [],_,_,_,_=>by simp[Ak]
 |(key,v)::r,ih,g,off,h=>by
  simp only[Ak,Ih]at h ⊢;obtain⟨⟨h0,cs,hv,hc⟩,hr⟩:=h;exact⟨⟨h0,cs,ih (key,v) (by simp) cs hv,hc⟩,Ak.of_more r (fun x hx=>ih x (by simp[hx])) g _ hr⟩
theorem Aa.more {w:World} {B B':Nat} (hB:B<=B'): ∀(v:Val) cs,Aa w B v cs->Aa w B' v cs:=by
 refine Val.ind ?_;intro k b n t l o hl ho cs h;simp only[Aa]at h ⊢;obtain⟨la,lc,oa,oc,hcs,h1,h2⟩:=h;refine⟨la,lc,oa,oc,hcs, ?_, ?_⟩
 . rcases h1 with h1|⟨g,off,ha,hg,h1⟩
   . exact .inl h1
   . exact .inr ⟨g,off,ha,by omega,Ai.of_more l hl g off h1⟩
 . rcases h2 with h2|⟨g,off,ha,hg,h2⟩
   . exact .inl h2
   . exact .inr ⟨g,off,ha,by omega,Ak.of_more o ho g off h2⟩
theorem Ai.at_ {w:World} {B:Nat}: ∀{l:List Val} {g off:Nat},Ai w B l g off-> ∀{i:Nat} {v:Val},l[i]? =some v->
 ∃cs,Aa w B v cs/\ ∀j u,cs[j]? =some u->w.cell? ⟨g,off+i*6+j,none⟩=some u
 | [],_,_,_,i,v,hi=>by simp at hi
 |x::r,g,off,h,0,v,hi=>by
  simp only[Ai]at h;obtain⟨h,_⟩:=h;simp at hi;subst hi;simpa using h
 |x::r,g,off,h,i+1,v,hi=>by
  simp only[Ai]at h;obtain⟨cs,hv,hc⟩:=Ai.at_ h.2 (i:=i) (v:=v) (by simpa using hi);exact⟨cs,hv,fun j u hu=>by rw[show off+(i+1)*6+j=off+6+i*6+j from by omega];exact hc j u hu⟩
theorem Ak.at_ {w:World} {B:Nat}: ∀{l:List (ByteArray×Val)} {g off:Nat},Ak w B l g off-> ∀{i:Nat} {m:ByteArray×Val},l[i]? =some m->
 w.cell? ⟨g,off+i*7,none⟩=some (.string m.1)/\ ∃cs,Aa w B m.2 cs/\ ∀j u,cs[j]? =some u->w.cell? ⟨g,off+i*7+1+j,none⟩=some u
 | [],_,_,_,i,v,hi=>by simp at hi
 |x::r,g,off,h,0,v,hi=>by
  simp only[Ak]at h;obtain⟨h,_⟩:=h;simp at hi;subst hi;obtain⟨key,v⟩:=x;simpa only[Ih,Nat.zero_mul,Nat.add_zero]using h
 |x::r,g,off,h,i+1,m,hi=>by
  simp only[Ak]at h;obtain⟨h0,cs,hv,hc⟩:=Ak.at_ h.2 (i:=i) (m:=m) (by simpa using hi);exact⟨by rw[show off+(i+1)*7=off+7+i*7 from by omega];exact h0,cs,hv,fun j u hu=>by rw[show off+(i+1)*7+1+j=off+7+i*7+1+j from by omega];exact hc j u hu⟩
theorem Ai.six {w:World} {B:Nat} {l:List Val} {g off:Nat} (h:Ai w B l g off) {i:Nat} {k:Int} {b:Bool} {n:Int} {t:ByteArray} {l':List Val} {o':List (ByteArray×Val)} (hi:l[i]? =some (.mk k b n t l' o')):
 ∃la lc oa oc,Aa w B (.mk k b n t l' o') (C0 k b n t la l'.length lc oa o'.length oc)/\w.cell? ⟨g,off+i*6,none⟩=some (.int .i64 k)/\w.cell? ⟨g,off+i*6+1,none⟩=some (.bool b)/\
  w.cell? ⟨g,off+i*6+2,none⟩=some (.int .i64 n)/\w.cell? ⟨g,off+i*6+3,none⟩=some (.string t)/\w.cell? ⟨g,off+i*6+4,none⟩=some (.slice la l'.length lc)/\
  w.cell? ⟨g,off+i*6+5,none⟩=some (.slice oa o'.length oc):=by
 obtain⟨cs,hv,hc⟩:=h.at_ hi;have hv':=hv;simp only[Aa]at hv';obtain⟨la,lc,oa,oc,rfl,_,_⟩:=hv';exact⟨la,lc,oa,oc,hv,hc 0 _ rfl,hc 1 _ rfl,hc 2 _ rfl,hc 3 _ rfl,hc 4 _ rfl,hc 5 _ rfl⟩
theorem Ak.seven {w:World} {B:Nat} {l:List (ByteArray×Val)} {g off:Nat} (h:Ak w B l g off) {i:Nat} {key:ByteArray} {k:Int} {b:Bool} {n:Int} {t:ByteArray} {l':List Val} {o':List (ByteArray×Val)} (hi:l[i]? =some (key,.mk k b n t l' o')):
 ∃la lc oa oc,Aa w B (.mk k b n t l' o') (C0 k b n t la l'.length lc oa o'.length oc)/\w.cell? ⟨g,off+i*7,none⟩=some (.string key)/\w.cell? ⟨g,off+i*7+1,none⟩=some (.int .i64 k)/\w.cell? ⟨g,off+i*7+2,none⟩=some (.bool b)/\
  w.cell? ⟨g,off+i*7+3,none⟩=some (.int .i64 n)/\w.cell? ⟨g,off+i*7+4,none⟩=some (.string t)/\w.cell? ⟨g,off+i*7+5,none⟩=some (.slice la l'.length lc)/\
  w.cell? ⟨g,off+i*7+6,none⟩=some (.slice oa o'.length oc):=by
 obtain⟨h0,cs,hv,hc⟩:=h.at_ hi;have hv':=hv;simp only[Aa]at hv';obtain⟨la,lc,oa,oc,rfl,_,_⟩:=hv';exact⟨la,lc,oa,oc,hv,h0,hc 0 _ rfl,hc 1 _ rfl,hc 2 _ rfl,hc 3 _ rfl,hc 4 _ rfl,hc 5 _ rfl⟩
theorem Cp {l:List Val} {v:Val} (h:v ∈ l):v.bulk<=A6 l:=by
 induction l with
 |nil=>cases h
 |cons x r ih=>
  simp only[A6];rcases List.mem_cons.1 h with rfl|h
  . omega
  . have:=ih h;omega
theorem Ca {l:List (ByteArray×Val)} {m:ByteArray×Val} (h:m ∈ l):1+m.1.size+m.2.bulk<=Ag l:=by
 induction l with
 |nil=>cases h
 |cons x r ih=>
  obtain⟨k,v⟩:=x;simp only[Ag,Ez];rcases List.mem_cons.1 h with rfl|h
  . simp only;omega
  . have:=ih h;omega
theorem Val.bulk_pos (v:Val):6<=v.bulk:=by
 obtain⟨k,b,n,t,l,o⟩:=v;simp only[Val.bulk];omega
theorem Ch (l:List Val):6*l.length<=A6 l:=by
 induction l with
 |nil=>simp[A6]
 |cons x r ih=>simp only[A6,List.length_cons];have:=x.bulk_pos;omega
theorem Bu (l:List (ByteArray×Val)):7*l.length<=Ag l:=by
 induction l with
 |nil=>simp[Ag]
 |cons x r ih=>obtain⟨k,v⟩:=x;simp only[Ag,Ez,List.length_cons];have:=v.bulk_pos;omega
mutual
def Jc:Val->Prop
 | .mk _ _ n _ l o=>(-9223372036854775808<=n/\n<=9223372036854775807)/\Tw l/\U0 o
def Tw:List Val->Prop
 | []=>True
 |v::r=>Jc v/\Tw r
def U0:List (ByteArray×Val)->Prop
 | []=>True
 |p::r=>inP p/\U0 r
def inP:ByteArray×Val->Prop
 |(_,v)=>Jc v
end
def Gr (w:World) (B:Nat):List Val->List Value->Prop
 | [],ns=>ns= []
 |v::r,ns=> ∃cs rest,ns=cs++rest/\Aa w B v cs/\Gr w B r rest
theorem Aa.len {w:World} {B:Nat} {v:Val} {cs:List Value} (h:Aa w B v cs):cs.length=6/\ ∀u ∈ cs,u.oneCell'=true:=by
 obtain⟨k,b,n,t,l,o⟩:=v;simp only[Aa]at h;obtain⟨la,lc,oa,oc,rfl,_,_⟩:=h;refine⟨rfl,fun u hu=> ?_⟩;simp only[List.mem_cons,List.not_mem_nil,or_false]at hu;rcases hu with rfl|rfl|rfl|rfl|rfl|rfl<;>rfl
theorem Gr.len {w:World} {B:Nat}: ∀{l:List Val} {ns:List Value},Gr w B l ns->ns.length=l.length*6/\ ∀u ∈ ns,u.oneCell'=true
 | [],ns,h=>by
   have:ns= []:=h;subst this;exact⟨rfl,fun u hu=>by cases hu⟩
 |v::r,ns,h=>by
  obtain⟨cs,rest,rfl,h1,h2⟩:=h;obtain⟨a1,a2⟩:=h1.len;obtain⟨b1,b2⟩:=Gr.len h2;refine⟨by rw[List.length_append,a1,b1,List.length_cons];omega,fun u hu=> ?_⟩;rcases List.mem_append.1 hu with hu|hu
  . exact a2 u hu
  . exact b2 u hu
theorem Ai.row {w:World} {B:Nat}: ∀{l:List Val} {g off:Nat},Ai w B l g off-> ∃ns,Gr w B l ns/\ ∀j u,ns[j]? =some u->w.cell? ⟨g,off+j,none⟩=some u
 | [],_,_,_=>⟨[],rfl,fun j u h=>by simp at h⟩
 |v::r,g,off,h=>by
  simp only[Ai]at h;obtain⟨⟨cs,h1,h2⟩,h3⟩:=h;obtain⟨ns,h4,h5⟩:=Ai.row h3;refine⟨cs++ns,⟨cs,ns,rfl,h1,h4⟩,fun j u hu=> ?_⟩;have hl:=h1.len.1;by_cases hj:j<6
  . rw[List.getElem?_append_left (by omega)]at hu;exact h2 j u hu
  . rw[List.getElem?_append_right (by omega),hl]at hu;have:=h5 (j - 6) u hu
    rwa [show off+6+(j - 6)=off+j from by omega]at this
theorem Gr.holds {w w':World} {B B':Nat} (hk: ∀v cs,Aa w B v cs->Aa w' B' v cs) {g:Nat}: ∀{l:List Val} {ns:List Value} {off:Nat},Gr w B l ns->(∀j u,ns[j]? =some u->w'.cell? ⟨g,off+j,none⟩=some u)->Ai w' B' l g off
 | [],_,_,_,_=>by simp[Ai]
 |v::r,ns,off,h,hc=>by
  obtain⟨cs,rest,rfl,h1,h2⟩:=h;have hl:=h1.len.1;simp only[Ai];refine⟨⟨cs,hk v cs h1,fun j u hu=>hc j u ?_⟩,Gr.holds hk h2 (fun j u hu=> ?_)⟩
  . have:=(List.getElem?_eq_some_iff.1 hu).1;rw[List.getElem?_append_left this];exact hu
  . rw[show off+6+j=off+(6+j)from by omega];refine hc (6+j) u ?_;rw[List.getElem?_append_right (by omega),hl,show 6+j - 6=j from by omega];exact hu
theorem Gr.snoc {w:World} {B:Nat} {v:Val} {cs:List Value} (hv:Aa w B v cs): ∀{l:List Val} {ns:List Value},Gr w B l ns->Gr w B (l++ [v]) (ns++cs)
 | [],ns,h=>by
   have:ns= []:=h;subst this;exact⟨cs, [],by simp,hv,rfl⟩
 |x::r,ns,h=>by
  obtain⟨c1,rest,rfl,h1,h2⟩:=h;exact⟨c1,rest++cs,by simp,h1,Gr.snoc hv h2⟩
def within:Val->List Val
 | .mk k _ _ _ l o=>if k=5 then l else if k=6 then o.map (·.2)else []
theorem V1 {cs:List Value} (h:cs.length=6): ∃c0 c1 c2 c3 c4 c5,cs= [c0,c1,c2,c3,c4,c5]:=by
 match cs,h with
 | [c0,c1,c2,c3,c4,c5],_=>exact⟨_,_,_,_,_,_,rfl⟩
def K4 (w w':World) (v:Val) (cs:List Value):Prop:= ∀w'':World,w'.heap.size<=w''.heap.size->(∀p:Addr,w.heap.size<=p.block->p.block<w'.heap.size->w''.cell? p=w'.cell? p)->Aa w'' w'.heap.size v cs
theorem Gr.more {w:World} {B B':Nat} (h:B<=B'): ∀{l:List Val} {ns:List Value},Gr w B l ns->Gr w B' l ns
 | [],_,e=>e
 |_::_,_,⟨cs,rest,e,h1,h2⟩=>⟨cs,rest,e,Aa.more h _ _ h1,Gr.more h h2⟩
theorem Ad7 (key:ByteArray) {cs:List Value} (h: ∀u ∈ cs,u.oneCell'=true): ∀u ∈ Value.string key::cs,u.oneCell'=true:=by
 intro u hu;rcases List.mem_cons.1 hu with rfl|hu
 . rfl
 . exact h u hu
theorem K6 {w:World} {g:Nat} {a0 a1 a2 a3 a4 a5:Value} (h:w.heap[g]? =some (.cells #[a0,a1,a2,a3,a4,a5] 33 (0,0))):
 w.cell? ⟨g,0,none⟩=some a0/\w.cell? ⟨g,1,none⟩=some a1/\w.cell? ⟨g,2,none⟩=some a2/\w.cell? ⟨g,3,none⟩=some a3/\w.cell? ⟨g,4,none⟩=some a4/\w.cell? ⟨g,5,none⟩=some a5:=by
 refine⟨?_, ?_, ?_, ?_, ?_, ?_⟩<;>(rw[Lib.cell_of_heap h];rfl)
def Et (w:World) (B:Nat):List (ByteArray×Val)->List Value->Prop
 | [],ns=>ns= []
 |(key,v)::r,ns=> ∃cs rest,ns=.string key::(cs++rest)/\Aa w B v cs/\Et w B r rest
theorem Et.more {w:World} {B B':Nat} (h:B<=B'): ∀{l:List (ByteArray×Val)} {ns:List Value},Et w B l ns->Et w B' l ns
 | [],_,e=>e
 |(_,_)::_,_,⟨cs,rest,e,h1,h2⟩=>⟨cs,rest,e,Aa.more h _ _ h1,Et.more h h2⟩
theorem Et.holds {w:World} {B:Nat} {g:Nat}: ∀{l:List (ByteArray×Val)} {ns:List Value} {off:Nat},Et w B l ns->(∀j u,ns[j]? =some u->w.cell? ⟨g,off+j,none⟩=some u)->Ak w B l g off
 | [],_,_,_,_=>by simp[Ak]
 |(key,v)::r,ns,off,h,hc=>by
  obtain⟨cs,rest,rfl,h1,h2⟩:=h;have hl:=h1.len.1;simp only[Ak,Ih];refine⟨⟨hc 0 _ rfl,cs,h1,fun j u hu=> ?_⟩,Et.holds h2 (fun j u hu=> ?_)⟩
  . have h3:=(List.getElem?_eq_some_iff.1 hu).1;rw[show off+1+j=off+(j+1)from by omega];refine hc (j+1) u ?_;rw[List.getElem?_cons_succ,List.getElem?_append_left h3];exact hu
  . rw[show off+7+j=off+(6+j+1)from by omega];refine hc (6+j+1) u ?_;rw[List.getElem?_cons_succ,List.getElem?_append_right (by omega),hl,show 6+j - 6=j from by omega];exact hu
theorem Et.snoc {w:World} {B:Nat} {key:ByteArray} {v:Val} {cs:List Value} (hv:Aa w B v cs): ∀{l:List (ByteArray×Val)} {ns:List Value},Et w B l ns->Et w B (l++ [(key,v)]) (ns++(.string key::cs))
 | [],ns,h=>by
   have:ns= []:=h;subst this;exact⟨cs, [],by simp,hv,rfl⟩
 |(k',x)::r,ns,h=>by
  obtain⟨c1,rest,rfl,h1,h2⟩:=h;exact⟨c1,rest++(.string key::cs),by simp,h1,Et.snoc hv h2⟩
theorem L0:(Tryz.prog.info? 33).map (fun i=>(i.zero,i.size,i.bytes))=some (some (.agg #[.int .i64 0,.bool false,.int .i64 0,.string ⟨#[]⟩,.slice none 0 0,.slice none 0 0]),6,88):=by kernel_rfl
theorem Pm:(Tryz.prog.info? 88).map (fun i=>(i.zero,i.size,i.bytes))=some (some (.agg #[.string ⟨#[]⟩,.int .i64 0,.bool false,.int .i64 0,.string ⟨#[]⟩,.slice none 0 0,.slice none 0 0]),7,104):=by kernel_rfl
theorem Es (w:World) (b i:Nat) (V:Value) {c:Nat} (h:c≠b):(w.setCell ⟨b,i,none⟩ V).heap[c]? =w.heap[c]? :=by
 simp only[World.setCell,Array.getElem?_modify];rw[if_neg (fun e=>h e.symm)]
theorem Et.app {w:World} {B:Nat}: ∀{a b:List (ByteArray×Val)} {ns ms:List Value},Et w B a ns->Et w B b ms->Et w B (a++b) (ns++ms)
 | [],b,ns,ms,h,h'=>by
   have:ns= []:=h;subst this;exact h'
 |(k,v)::r,b,ns,ms,⟨cs,rest,e,h1,h2⟩,h'=>by
  subst e;exact⟨cs,rest++ms,by simp,h1,Et.app h2 h'⟩
theorem Et.len {w:World} {B:Nat}: ∀{l:List (ByteArray×Val)} {ns:List Value},Et w B l ns->ns.length=l.length*7/\ ∀u ∈ ns,u.oneCell'=true
 | [],ns,h=>by
   have:ns= []:=h;subst this;exact⟨rfl,fun u hu=>by cases hu⟩
 |(k,v)::r,ns,⟨cs,rest,e,h1,h2⟩=>by
  subst e;obtain⟨a1,a2⟩:=h1.len;obtain⟨b1,b2⟩:=Et.len h2;refine⟨by rw[List.length_cons,List.length_append,a1,b1,List.length_cons];omega,fun u hu=> ?_⟩;rcases List.mem_cons.1 hu with rfl|hu
  . rfl
  rcases List.mem_append.1 hu with hu|hu
  . exact a2 u hu
  . exact b2 u hu
theorem Et.split {w:World} {B:Nat}: ∀{l:List (ByteArray×Val)} {ns:List Value} (k:Nat),Et w B l ns->Et w B (l.take k) (ns.take (k*7))/\Et w B (l.drop k) (ns.drop (k*7))
 | [],ns,k,h=>by
   have:ns= []:=h;subst this;simp[Et]
 |(key,v)::r,ns,0,h=>by
  simp only[List.take_zero,Nat.zero_mul,List.drop_zero];exact⟨rfl,h⟩
 |(key,v)::r,ns,k+1,⟨cs,rest,e,h1,h2⟩=>by
  subst e;obtain⟨a,b⟩:=Et.split k h2;have hl:=h1.len.1;have e1:(Value.string key::(cs++rest)).take ((k+1)*7)=.string key::(cs++rest.take (k*7)):=by
   rw[show(k+1)*7=(6+k*7)+1 from by omega,List.take_succ_cons,List.take_append,hl,List.take_of_length_le (by omega),show 6+k*7 - 6=k*7 from by omega]
  have e2:(Value.string key::(cs++rest)).drop ((k+1)*7)=rest.drop (k*7):=by
   rw[show(k+1)*7=(6+k*7)+1 from by omega,List.drop_succ_cons,List.drop_append,hl,List.drop_eq_nil_of_le (by omega),show 6+k*7 - 6=k*7 from by omega,List.nil_append]
  rw[e1,e2];exact⟨⟨cs,rest.take (k*7),rfl,h1,a⟩,b⟩
theorem Dl: ∀(a b:List (ByteArray×Val)),Ag (a++b)=Ag a+Ag b
 | [],b=>by simp[Ag]
 |x::r,b=>by simp only[List.cons_append,Ag,Dl r b];omega
section
variable {P:Program} {md:Region.Mode} {ops:Array Oper} {Q:Exit->Act->World->Prop} {S:World->Prop}
theorem tkN (i:Nat) {oi:Oper} {fuel:Nat} {listed:Array Bool} {a a':Act} {w:World} (hS:S w) (h:wpAnyH P md ops Q S fuel (listed.setIfInBounds i true) a' w)
 (hi:ops[i]? =some oi:=by rfl) (hs:Region.noSelect ops=true:=by kernel_rfl) (hf:Region.free md ops listed i=true:=by kernel_rfl) (hr:(Region.ready md ops listed).contains i=true:=by kernel_rfl)
 (hQ: ∀c a w,Q (.panic c) (a.put oi.dst undef) w->Q (.panic c) a w:=by exact fun _ _ _ h=>h) (hw:Region.wanted oi (yielded ops a.tmps)=false:=by kernel_rfl)
 (hn:a.put oi.dst undef=a':=by((try simp only[Act.put,tk1,tk2,tk3,tk4,tk5,tk6]);exact rfl)):wpAnyH P md ops Q S (fuel+1) listed a w:=
 wpAnyH_take hi hs hf hr hQ (Or.inr ⟨hw,rfl⟩) hS (hn▸h)
end
theorem Aef {z:Int} (h0:0<=z) (h1:z<256):((z.toNat.toUInt8).toNat:Int)=z:=by
 have:z.toNat<256:=by omega
 simp[Nat.toUInt8,UInt8.toNat_ofNat',Nat.mod_eq_of_lt this];omega
theorem Ki (w:World) (zs:List Int) (hz: ∀z ∈ zs,0<=z/\z<256) (t:TypeId):
 (convert 127 9 (.slice (some ⟨w.heap.size,0,none⟩) zs.length zs.length)).run Tryz.prog (w.alloc (.cells (zs.map (Value.int .u8)).toArray t))=.ok (.string ⟨(zs.map fun z=>z.toNat.toUInt8).toArray⟩) (w.alloc (.cells (zs.map (Value.int .u8)).toArray t)):=by
 have:=run_convert_bytes_back (P:=Tryz.prog) (w.alloc (.cells (zs.map (Value.int .u8)).toArray t)) 127 9 5 ⟨w.heap.size,0,none⟩ zs.length (zs.map fun z=>z.toNat.toUInt8) Tryz.underlying127 Tryz.underlying5 Tryz.underlying9 (by
  intro j hj;rw[List.length_map]at hj;have hh:(w.alloc (.cells (zs.map (Value.int .u8)).toArray t)).heap[w.heap.size]? =some (.cells (zs.map (Value.int .u8)).toArray t (0,0)):=heap_alloc_new _ _;rw[show(⟨w.heap.size,0,none⟩:Addr).add j=⟨w.heap.size,j,none⟩from by unfold Addr.add;split<;>simp_all];rw[Lib.cell_of_heap hh];simp only[List.getElem?_toArray,List.getElem?_map,List.getElem?_eq_getElem hj,Option.map_some,List.getElem_map];rw[Aef (hz _ (List.getElem_mem hj)).1 (hz _ (List.getElem_mem hj)).2])
 rwa [List.length_map]at this
set_option maxRecDepth 20000 in
theorem Sc (r:Int) (h0:0<=r) (h1:r<=1114111) (hs: ¬(55296<=r/\r<57344)) (w:World):
 Calls Tryz.prog 85 #[.int .i64 r] w fun e w'=>e=.returned (.string ⟨(Lib.encodeRune r).toArray⟩)/\Below w.heap.size w w':=by
 by_cases c1:r<128
 . have e:Lib.encodeRune r= [r].map fun z=>z.toNat.toUInt8:=by unfold Lib.encodeRune;rw[Lib.encodeRuneZ_one h0 (by omega)]
   have hB:=Ki w [r] (by intro z hz;simp at hz;omega) 5;rw[e];simp only[List.map_cons,List.map_nil,List.length_cons,List.length_nil]at hB ⊢;go_enter Tryz.func85,Tryz.ntmps85;go_wp2;go_ret;exact⟨rfl,(Below.refl _ _).alloc (Nat.le_refl _) _⟩
 by_cases c2:r<2048
 . have e:Lib.encodeRune r= [192+r / 64,128+r % 64].map fun z=>z.toNat.toUInt8:=by unfold Lib.encodeRune;rw[Lib.encodeRuneZ_two (by omega) (by omega)]
   have hB:=Ki w [192+r / 64,128+r % 64] (by intro z hz;simp at hz;omega) 5;rw[e];have b1:0<=r / 64:=by omega
   have b2:r / 64<32:=by omega
   have b3:0<=r % 64:=by omega
   have b4:r % 64<64:=by omega
   simp only[List.map_cons,List.map_nil,List.length_cons,List.length_nil]at hB ⊢;obtain⟨z1,hz1⟩: ∃z,192+r / 64=z:=⟨_,rfl⟩;obtain⟨z2,hz2⟩: ∃z,128+r % 64=z:=⟨_,rfl⟩;have d1:0<=z1/\z1<256:=by omega
   have d2:0<=z2/\z2<256:=by omega
   rw[hz1,hz2]at hB ⊢;go_enter Tryz.func85,Tryz.ntmps85;go_wp2;go_ret;exact⟨rfl,(Below.refl _ _).alloc (Nat.le_refl _) _⟩
 by_cases c3:r<65536
 . have e:Lib.encodeRune r= [224+r / 4096,128+r / 64 % 64,128+r % 64].map fun z=>z.toNat.toUInt8:=by unfold Lib.encodeRune;rw[Lib.encodeRuneZ_three (by omega)]
   have hB:=Ki w [224+r / 4096,128+r / 64 % 64,128+r % 64] (by intro z hz;simp at hz;omega) 5;rw[e];have b1:0<=r / 4096:=by omega
   have b2:r / 4096<16:=by omega
   have b3:0<=r % 64:=by omega
   have b4:r % 64<64:=by omega
   have b5:0<=r / 64:=by omega
   have b6:0<=r / 64 % 64:=by omega
   have b7:r / 64 % 64<64:=by omega
   simp only[List.map_cons,List.map_nil,List.length_cons,List.length_nil]at hB ⊢;obtain⟨z1,hz1⟩: ∃z,224+r / 4096=z:=⟨_,rfl⟩;obtain⟨z2,hz2⟩: ∃z,128+r / 64 % 64=z:=⟨_,rfl⟩;obtain⟨z3,hz3⟩: ∃z,128+r % 64=z:=⟨_,rfl⟩;have d1:0<=z1/\z1<256:=by omega
   have d2:0<=z2/\z2<256:=by omega
   have d3:0<=z3/\z3<256:=by omega
   rw[hz1,hz2,hz3]at hB ⊢;go_enter Tryz.func85,Tryz.ntmps85;go_wp2;go_ret;exact⟨rfl,(Below.refl _ _).alloc (Nat.le_refl _) _⟩
 . have e:Lib.encodeRune r= [240+r / 262144,128+r / 4096 % 64,128+r / 64 % 64,128+r % 64].map fun z=>z.toNat.toUInt8:=by unfold Lib.encodeRune;rw[Lib.encodeRuneZ_four (by omega) (by omega)]
   have hB:=Ki w [240+r / 262144,128+r / 4096 % 64,128+r / 64 % 64,128+r % 64] (by intro z hz;simp at hz;omega) 5;rw[e];have b1:0<=r / 262144:=by omega
   have b2:r / 262144<8:=by omega
   have b3:0<=r % 64:=by omega
   have b4:r % 64<64:=by omega
   have b5:0<=r / 64:=by omega
   have b6:0<=r / 64 % 64:=by omega
   have b7:r / 64 % 64<64:=by omega
   have b8:0<=r / 4096:=by omega
   have b9:0<=r / 4096 % 64:=by omega
   have b10:r / 4096 % 64<64:=by omega
   simp only[List.map_cons,List.map_nil,List.length_cons,List.length_nil]at hB ⊢;obtain⟨z0,hz0⟩: ∃z,240+r / 262144=z:=⟨_,rfl⟩;obtain⟨z1,hz1⟩: ∃z,128+r / 4096 % 64=z:=⟨_,rfl⟩;obtain⟨z2,hz2⟩: ∃z,128+r / 64 % 64=z:=⟨_,rfl⟩;obtain⟨z3,hz3⟩: ∃z,128+r % 64=z:=⟨_,rfl⟩;have d0:0<=z0/\z0<256:=by omega
   have d1:0<=z1/\z1<256:=by omega
   have d2:0<=z2/\z2<256:=by omega
   have d3:0<=z3/\z3<256:=by omega
   rw[hz0,hz1,hz2,hz3]at hB ⊢;go_enter Tryz.func85,Tryz.ntmps85;go_wp2;go_ret;exact⟨rfl,(Below.refl _ _).alloc (Nat.le_refl _) _⟩
end Go.Proofs.YtdbejcbbhomdbaaGreatDoor
namespace Go.Proofs.YtdbejcbbhomdbaaGreatDoor
open Go.RowKit Go.ChangeShapes Go.WideShapes Go.ChangeAt
theorem P6:ownKnob Tryz.prog.godebug=none:=by kernel_rfl
noncomputable def Fd (os:Os):World:=World.laidAll Tryz.prog os Rows.patchMayRow.laid
theorem Xn:Rows.laid_unicode_utf8_first=Lib.firstData:=by kernel_rfl
theorem U7:Rows.laid_unicode_utf8_acceptRanges (H:=Unit)=Lib.acceptData:=by kernel_rfl
theorem Xo:Rows.laid_internal_strconv_uint64pow10 (H:=Unit)=Lib.tabData .u64 Lib.pow10Tab:=by kernel_rfl
theorem Po (os:Os) (args:Array Value):laidMet Tryz.prog Rows.patchMayRow.laid ((Fd os).forCall (fun _ _=>0) ⟨#[],args, []⟩).memory:=
 laidMet_laidAll _ (by kernel_rfl) (by kernel_rfl)
end Go.Proofs.YtdbejcbbhomdbaaGreatDoor
