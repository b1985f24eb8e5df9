/- Parts: Sums of bytes, bit by bit and four bits at once. Plain. No condition. -/
import Derived.Test.YtolnhkmhfblhkaaGreatDoorProg
import Derived.Lib.Hide
import Derived.WalkKit
import Derived.Below
import Derived.BigQuiet
import Derived.Deep.QuietTactic
import Derived.WalkLawsBesides
import Derived.WalkSpells
import Derived.Lib.Strings
set_option maxHeartbeats 20000000
namespace Go.Proofs.YtolnhkmhfblhkaaGreatDoor
open Go Go.RowKit
theorem tk1 {α:Type} {xs:List α} {i:Nat} (h:i<xs.toArray.size):xs.toArray[i]=xs[i]'(by simpa using h):=List.getElem_toArray h
theorem tk2 {α:Type} (a:α) (l:List α) (i:Nat) (h:i+1<(a::l).length):(a::l)[i+1]=l[i]'(by simpa using h):=List.getElem_cons_succ a l i h
theorem tk3 {α:Type} (a:α) (l:List α) (h:0<(a::l).length):(a::l)[0]=a:=List.getElem_cons_zero a l h
theorem tk4 {α:Type} (l:List α) (i:Nat) (a:α):l.toArray.setIfInBounds i a=(l.set i a).toArray:=List.setIfInBounds_toArray l i a
theorem tk5 {α:Type} {x:α} {xs:List α} {a:α}:(x::xs).set 0 a=a::xs:=rfl
theorem tk6 {α:Type} {x:α} {xs:List α} {i:Nat} {a:α}:(x::xs).set (i+1) a=x::xs.set i a:=rfl
theorem qz {p:Prop} (h:p):Hid p:=Lib.hid h
theorem hid2 {p0 p1:Prop} (x0:p0) (x1:p1):Hid p0/\Hid p1:=⟨Lib.hid x0,Lib.hid x1⟩
theorem hid3 {p0 p1 p2:Prop} (x0:p0) (x1:p1) (x2:p2):Hid p0/\Hid p1/\Hid p2:=⟨Lib.hid x0,Lib.hid x1,Lib.hid x2⟩
theorem hid4 {p0 p1 p2 p3:Prop} (x0:p0) (x1:p1) (x2:p2) (x3:p3):Hid p0/\Hid p1/\Hid p2/\Hid p3:=⟨Lib.hid x0,Lib.hid x1,Lib.hid x2,Lib.hid x3⟩
theorem hid5 {p0 p1 p2 p3 p4:Prop} (x0:p0) (x1:p1) (x2:p2) (x3:p3) (x4:p4):Hid p0/\Hid p1/\Hid p2/\Hid p3/\Hid p4:=⟨Lib.hid x0,Lib.hid x1,Lib.hid x2,Lib.hid x3,Lib.hid x4⟩
theorem hid6 {p0 p1 p2 p3 p4 p5:Prop} (x0:p0) (x1:p1) (x2:p2) (x3:p3) (x4:p4) (x5:p5):Hid p0/\Hid p1/\Hid p2/\Hid p3/\Hid p4/\Hid p5:=⟨Lib.hid x0,Lib.hid x1,Lib.hid x2,Lib.hid x3,Lib.hid x4,Lib.hid x5⟩
theorem hid7 {p0 p1 p2 p3 p4 p5 p6:Prop} (x0:p0) (x1:p1) (x2:p2) (x3:p3) (x4:p4) (x5:p5) (x6:p6):Hid p0/\Hid p1/\Hid p2/\Hid p3/\Hid p4/\Hid p5/\Hid p6:=⟨Lib.hid x0,Lib.hid x1,Lib.hid x2,Lib.hid x3,Lib.hid x4,Lib.hid x5,Lib.hid x6⟩
theorem hid10 {p0 p1 p2 p3 p4 p5 p6 p7 p8 p9:Prop} (x0:p0) (x1:p1) (x2:p2) (x3:p3) (x4:p4) (x5:p5) (x6:p6) (x7:p7) (x8:p8) (x9:p9):Hid p0/\Hid p1/\Hid p2/\Hid p3/\Hid p4/\Hid p5/\Hid p6/\Hid p7/\Hid p8/\Hid p9:=⟨Lib.hid x0,Lib.hid x1,Lib.hid x2,Lib.hid x3,Lib.hid x4,Lib.hid x5,Lib.hid x6,Lib.hid x7,Lib.hid x8,Lib.hid x9⟩
theorem hid11 {p0 p1 p2 p3 p4 p5 p6 p7 p8 p9 p10:Prop} (x0:p0) (x1:p1) (x2:p2) (x3:p3) (x4:p4) (x5:p5) (x6:p6) (x7:p7) (x8:p8) (x9:p9) (x10:p10):Hid p0/\Hid p1/\Hid p2/\Hid p3/\Hid p4/\Hid p5/\Hid p6/\Hid p7/\Hid p8/\Hid p9/\Hid p10:=⟨Lib.hid x0,Lib.hid x1,Lib.hid x2,Lib.hid x3,Lib.hid x4,Lib.hid x5,Lib.hid x6,Lib.hid x7,Lib.hid x8,Lib.hid x9,Lib.hid x10⟩
inductive Val where
 |mk (k:Int) (b:Bool) (n:Int) (t:ByteArray) (l:List Val) (o:List (ByteArray×Val))
abbrev Cs (k:Int) (b:Bool) (n:Int) (t:ByteArray) (la:Option Addr) (ln lc:Nat) (oa:Option Addr) (on oc:Nat):List Value:=
 [.int .i64 k,.bool b,.int .i64 n,.string t,.slice la ln lc,.slice oa on oc]
mutual
def Ab (w:World) (B:Nat):Val->List Value->Prop
 | .mk k b n t l o,cs=> ∃la lc oa oc,cs=Cs k b n t la l.length lc oa o.length oc/\
    (l= []\/ ∃g off,la=some ⟨g,off,none⟩/\g<B/\Af w B l g off)/\
    (o= []\/ ∃g off,oa=some ⟨g,off,none⟩/\g<B/\Ag w B o g off)
def Af (w:World) (B:Nat):List Val->Nat->Nat->Prop
 | [],_,_=>True
 |v::r,g,off=>(∃cs,Ab w B v cs/\ ∀j u,cs[j]? =some u->w.cell? ⟨g,off+j,none⟩=some u)/\Af w B r g (off+6)
def Ag (w:World) (B:Nat):List (ByteArray×Val)->Nat->Nat->Prop
 | [],_,_=>True
 |p::r,g,off=>Dc w B p g off/\Ag w B r g (off+7)
def Dc (w:World) (B:Nat):ByteArray×Val->Nat->Nat->Prop
 |(key,v),g,off=>w.cell? ⟨g,off,none⟩=some (.string key)/\ ∃cs,Ab w B v cs/\ ∀j u,cs[j]? =some u->w.cell? ⟨g,off+1+j,none⟩=some u
end
mutual
def Val.bulk:Val->Nat
 | .mk _ _ _ t l o=>6+t.size+A9 l+Aw o
def A9:List Val->Nat
 | []=>0
 |v::r=>v.bulk+A9 r
def Aw:List (ByteArray×Val)->Nat
 | []=>0
 |p::r=>Dl p+Aw r
def Dl:ByteArray×Val->Nat
 |(key,v)=>1+key.size+v.bulk
end
theorem Val.ind {p:Val->Prop} (h: ∀k b n t l o,(∀v ∈ l,p v)->(∀m ∈ o,p m.2)->p (.mk k b n t l o)): ∀v,p v:=by
 intro v;refine Val.rec (motive_1:=p) (motive_2:=fun l=> ∀v ∈ l,p v) (motive_3:=fun o=> ∀m ∈ o,p m.2) (motive_4:=fun m=>p m.2) ?_ ?_ ?_ ?_ ?_ ?_ v
 . intro k b n t l o hl ho;exact h k b n t l o hl ho
 . intro v hv
   cases hv
 . intro v r hv hr x hx;rcases List.mem_cons.1 hx with rfl|hx
   . exact hv
   . exact hr x hx
 . intro m hm
   cases hm
 . intro m r hm hr x hx;rcases List.mem_cons.1 hx with rfl|hx
   . exact hm
   . exact hr x hx
 . intro k v hv;exact hv
theorem Af.of_keep {w w':World} {B:Nat} (hk: ∀p:Addr,p.block<B->w'.cell? p=w.cell? p):
 ∀(l:List Val),(∀v ∈ l,∀cs,Ab w B v cs->Ab w' B v cs)-> ∀g off,g<B->Af w B l g off->Af w' B l g off
 | [],_,_,_,_,_=>by simp[Af]
 |v::r,ih,g,off,hg,h=>by
  simp only[Af]at h ⊢;obtain⟨⟨cs,hv,hc⟩,hr⟩:=h;exact⟨⟨cs,ih v (by simp) cs hv,fun j u hu=>(hk _ hg).trans (hc j u hu)⟩,Af.of_keep hk r (fun x hx=>ih x (by simp[hx])) g _ hg hr⟩
theorem Ag.of_keep {w w':World} {B:Nat} (hk: ∀p:Addr,p.block<B->w'.cell? p=w.cell? p):
 ∀(l:List (ByteArray×Val)),(∀m ∈ l,∀cs,Ab w B m.2 cs->Ab w' B m.2 cs)-> ∀g off,g<B->Ag w B l g off->Ag w' B l g off
 | [],_,_,_,_,_=>by simp[Ag]
 |(key,v)::r,ih,g,off,hg,h=>by
  simp only[Ag,Dc]at h ⊢;obtain⟨⟨h0,cs,hv,hc⟩,hr⟩:=h;exact⟨⟨(hk _ hg).trans h0,cs,ih (key,v) (by simp) cs hv,fun j u hu=>(hk _ hg).trans (hc j u hu)⟩,Ag.of_keep hk r (fun x hx=>ih x (by simp[hx])) g _ hg hr⟩
theorem Ab.keep {w w':World} {B:Nat} (hk: ∀p:Addr,p.block<B->w'.cell? p=w.cell? p): ∀(v:Val) cs,Ab w B v cs->Ab w' B v cs:=by
 refine Val.ind ?_;intro k b n t l o hl ho cs h;simp only[Ab]at h ⊢;obtain⟨la,lc,oa,oc,hcs,h1,h2⟩:=h;refine⟨la,lc,oa,oc,hcs, ?_, ?_⟩
 . rcases h1 with h1|⟨g,off,ha,hg,h1⟩
   . exact .inl h1
   . exact .inr ⟨g,off,ha,hg,Af.of_keep hk l hl g off hg h1⟩
 . rcases h2 with h2|⟨g,off,ha,hg,h2⟩
   . exact .inl h2
   . exact .inr ⟨g,off,ha,hg,Ag.of_keep hk o ho g off hg h2⟩
theorem Ab.below {w w':World} {B:Nat} {v:Val} {cs:List Value} (h:Ab w B v cs) (hb:Below B w w'):Ab w' B v cs:=Ab.keep (fun _ hp=>hb.cell hp) v cs h
theorem Af.keep {w w':World} {B:Nat} (hk: ∀p:Addr,p.block<B->w'.cell? p=w.cell? p) {l:List Val} {g off:Nat} (hg:g<B) (h:Af w B l g off):Af w' B l g off:=
 Af.of_keep hk l (fun v _=>Ab.keep hk v) g off hg h
theorem Ag.keep {w w':World} {B:Nat} (hk: ∀p:Addr,p.block<B->w'.cell? p=w.cell? p) {l:List (ByteArray×Val)} {g off:Nat} (hg:g<B) (h:Ag w B l g off):Ag w' B l g off:=
 Ag.of_keep hk l (fun m _=>Ab.keep hk m.2) g off hg h
theorem Af.below {w w':World} {B:Nat} {l:List Val} {g off:Nat} (hg:g<B) (h:Af w B l g off) (hb:Below B w w'):Af w' B l g off:=Af.keep (fun _ hp=>hb.cell hp) hg h
theorem Ag.below {w w':World} {B:Nat} {l:List (ByteArray×Val)} {g off:Nat} (hg:g<B) (h:Ag w B l g off) (hb:Below B w w'):Ag w' B l g off:=Ag.keep (fun _ hp=>hb.cell hp) hg h
theorem Af.of_more {w:World} {B B':Nat}: ∀(l:List Val),(∀v ∈ l,∀cs,Ab w B v cs->Ab w B' v cs)-> ∀g off,Af w B l g off->Af w B' l g off
 | [],_,_,_,_=>by simp[Af]
 |v::r,ih,g,off,h=>by
  simp only[Af]at h ⊢;obtain⟨⟨cs,hv,hc⟩,hr⟩:=h;exact⟨⟨cs,ih v (by simp) cs hv,hc⟩,Af.of_more r (fun x hx=>ih x (by simp[hx])) g _ hr⟩
theorem Ag.of_more {w:World} {B B':Nat}: ∀(l:List (ByteArray×Val)),(∀m ∈ l,∀cs,Ab w B m.2 cs->Ab w B' m.2 cs)-> ∀g off,Ag w B l g off->Ag w B' l g off
 | [],_,_,_,_=>by simp[Ag]
 |(key,v)::r,ih,g,off,h=>by
  simp only[Ag,Dc]at h ⊢;obtain⟨⟨h0,cs,hv,hc⟩,hr⟩:=h;exact⟨⟨h0,cs,ih (key,v) (by simp) cs hv,hc⟩,Ag.of_more r (fun x hx=>ih x (by simp[hx])) g _ hr⟩
theorem Ab.more {w:World} {B B':Nat} (hB:B<=B'): ∀(v:Val) cs,Ab w B v cs->Ab w B' v cs:=by
 refine Val.ind ?_;intro k b n t l o hl ho cs h;simp only[Ab]at h ⊢;obtain⟨la,lc,oa,oc,hcs,h1,h2⟩:=h;refine⟨la,lc,oa,oc,hcs, ?_, ?_⟩
 . rcases h1 with h1|⟨g,off,ha,hg,h1⟩
   . exact .inl h1
   . exact .inr ⟨g,off,ha,by omega,Af.of_more l hl g off h1⟩
 . rcases h2 with h2|⟨g,off,ha,hg,h2⟩
   . exact .inl h2
   . exact .inr ⟨g,off,ha,by omega,Ag.of_more o ho g off h2⟩
theorem Af.at_ {w:World} {B:Nat}: ∀{l:List Val} {g off:Nat},Af w B l g off-> ∀{i:Nat} {v:Val},l[i]? =some v->
 ∃cs,Ab w B v cs/\ ∀j u,cs[j]? =some u->w.cell? ⟨g,off+i*6+j,none⟩=some u
 | [],_,_,_,i,v,hi=>by simp at hi
 |x::r,g,off,h,0,v,hi=>by
  simp only[Af]at h;obtain⟨h,_⟩:=h;simp at hi;subst hi;simpa using h
 |x::r,g,off,h,i+1,v,hi=>by
  simp only[Af]at h;obtain⟨cs,hv,hc⟩:=Af.at_ h.2 (i:=i) (v:=v) (by simpa using hi);exact⟨cs,hv,fun j u hu=>by rw[show off+(i+1)*6+j=off+6+i*6+j from by omega];exact hc j u hu⟩
theorem Ag.at_ {w:World} {B:Nat}: ∀{l:List (ByteArray×Val)} {g off:Nat},Ag w B l g off-> ∀{i:Nat} {m:ByteArray×Val},l[i]? =some m->
 w.cell? ⟨g,off+i*7,none⟩=some (.string m.1)/\ ∃cs,Ab w B m.2 cs/\ ∀j u,cs[j]? =some u->w.cell? ⟨g,off+i*7+1+j,none⟩=some u
 | [],_,_,_,i,v,hi=>by simp at hi
 |x::r,g,off,h,0,v,hi=>by
  simp only[Ag]at h;obtain⟨h,_⟩:=h;simp at hi;subst hi;obtain⟨key,v⟩:=x;simpa only[Dc,Nat.zero_mul,Nat.add_zero]using h
 |x::r,g,off,h,i+1,m,hi=>by
  simp only[Ag]at h;obtain⟨h0,cs,hv,hc⟩:=Ag.at_ h.2 (i:=i) (m:=m) (by simpa using hi);exact⟨by rw[show off+(i+1)*7=off+7+i*7 from by omega];exact h0,cs,hv,fun j u hu=>by rw[show off+(i+1)*7+1+j=off+7+i*7+1+j from by omega];exact hc j u hu⟩
theorem Af.six {w:World} {B:Nat} {l:List Val} {g off:Nat} (h:Af w B l g off) {i:Nat} {k:Int} {b:Bool} {n:Int} {t:ByteArray} {l':List Val} {o':List (ByteArray×Val)} (hi:l[i]? =some (.mk k b n t l' o')):
 ∃la lc oa oc,Ab w B (.mk k b n t l' o') (Cs k b n t la l'.length lc oa o'.length oc)/\w.cell? ⟨g,off+i*6,none⟩=some (.int .i64 k)/\w.cell? ⟨g,off+i*6+1,none⟩=some (.bool b)/\
  w.cell? ⟨g,off+i*6+2,none⟩=some (.int .i64 n)/\w.cell? ⟨g,off+i*6+3,none⟩=some (.string t)/\w.cell? ⟨g,off+i*6+4,none⟩=some (.slice la l'.length lc)/\
  w.cell? ⟨g,off+i*6+5,none⟩=some (.slice oa o'.length oc):=by
 obtain⟨cs,hv,hc⟩:=h.at_ hi;have hv':=hv;simp only[Ab]at hv';obtain⟨la,lc,oa,oc,rfl,_,_⟩:=hv';exact⟨la,lc,oa,oc,hv,hc 0 _ rfl,hc 1 _ rfl,hc 2 _ rfl,hc 3 _ rfl,hc 4 _ rfl,hc 5 _ rfl⟩
theorem Ag.seven {w:World} {B:Nat} {l:List (ByteArray×Val)} {g off:Nat} (h:Ag w B l g off) {i:Nat} {key:ByteArray} {k:Int} {b:Bool} {n:Int} {t:ByteArray} {l':List Val} {o':List (ByteArray×Val)} (hi:l[i]? =some (key,.mk k b n t l' o')):
 ∃la lc oa oc,Ab w B (.mk k b n t l' o') (Cs k b n t la l'.length lc oa o'.length oc)/\w.cell? ⟨g,off+i*7,none⟩=some (.string key)/\w.cell? ⟨g,off+i*7+1,none⟩=some (.int .i64 k)/\w.cell? ⟨g,off+i*7+2,none⟩=some (.bool b)/\
  w.cell? ⟨g,off+i*7+3,none⟩=some (.int .i64 n)/\w.cell? ⟨g,off+i*7+4,none⟩=some (.string t)/\w.cell? ⟨g,off+i*7+5,none⟩=some (.slice la l'.length lc)/\
  w.cell? ⟨g,off+i*7+6,none⟩=some (.slice oa o'.length oc):=by
 obtain⟨h0,cs,hv,hc⟩:=h.at_ hi;have hv':=hv;simp only[Ab]at hv';obtain⟨la,lc,oa,oc,rfl,_,_⟩:=hv';exact⟨la,lc,oa,oc,hv,h0,hc 0 _ rfl,hc 1 _ rfl,hc 2 _ rfl,hc 3 _ rfl,hc 4 _ rfl,hc 5 _ rfl⟩
theorem Jo {l:List Val} {v:Val} (h:v ∈ l):v.bulk<=A9 l:=by
 induction l with
 |nil=>cases h
 |cons x r ih=>
  simp only[A9];rcases List.mem_cons.1 h with rfl|h
  . omega
  . have:=ih h;omega
theorem Jp {l:List (ByteArray×Val)} {m:ByteArray×Val} (h:m ∈ l):1+m.1.size+m.2.bulk<=Aw l:=by
 induction l with
 |nil=>cases h
 |cons x r ih=>
  obtain⟨k,v⟩:=x;simp only[Aw,Dl];rcases List.mem_cons.1 h with rfl|h
  . simp only;omega
  . have:=ih h;omega
theorem Val.bulk_pos (v:Val):6<=v.bulk:=by
 obtain⟨k,b,n,t,l,o⟩:=v;simp only[Val.bulk];omega
theorem Fj (l:List Val):6*l.length<=A9 l:=by
 induction l with
 |nil=>simp[A9]
 |cons x r ih=>simp only[A9,List.length_cons];have:=x.bulk_pos;omega
theorem Dw (l:List (ByteArray×Val)):7*l.length<=Aw l:=by
 induction l with
 |nil=>simp[Aw]
 |cons x r ih=>obtain⟨k,v⟩:=x;simp only[Aw,Dl,List.length_cons];have:=v.bulk_pos;omega
mutual
def K4:Val->Prop
 | .mk _ _ n _ l o=>(-9223372036854775808<=n/\n<=9223372036854775807)/\Lt l/\Lu o
def Lt:List Val->Prop
 | []=>True
 |v::r=>K4 v/\Lt r
def Lu:List (ByteArray×Val)->Prop
 | []=>True
 |p::r=>L0 p/\Lu r
def L0:ByteArray×Val->Prop
 |(_,v)=>K4 v
end
def E1 (k:Int) (b:Bool) (n:Int) (t:ByteArray) (ln on:Nat):Bool:=
 if k==1 then b||n != 0|| !t.toList.isEmpty||ln != 0||on != 0
 else if k==2 then n != 0|| !t.toList.isEmpty||ln != 0||on != 0
 else if k==3 then b|| !t.toList.isEmpty||ln != 0||on != 0
 else if k==4 then b||n != 0||ln != 0||on != 0
 else if k==5 then b||n != 0|| !t.toList.isEmpty||on != 0
 else if k==6 then b||n != 0|| !t.toList.isEmpty||ln != 0
 else true
theorem J0 (k:Int) (b:Bool) (n:Int) (t:ByteArray) (la oa:Option Addr) (ln lc on oc:Nat) (w:World):
 Calls Tryz.prog 116 #[.agg #[.int .i64 k,.bool b,.int .i64 n,.string t,.slice la ln lc,.slice oa on oc]] w fun e w'=>e=.returned (.bool (E1 k b n t ln on))/\Below w.heap.size w w':=by
 go_enter Tryz.func116,Tryz.ntmps116;go_wp2
 all_goals go_ret
 all_goals simp only[E1, *]
 all_goals refine⟨by first|(simp_all;done)|(simp_all;omega)|(simp_all;rw[Bool.eq_iff_iff];simp[Nat.pos_iff_ne_zero]), ?_⟩
 all_goals exact Below.alloc (Below.refl _ _) (Nat.le_refl _) _
theorem Kq {a b:Bool} (h:a=b):Ending.returned (.bool a)=.returned (.bool b):=by rw[h]
end Go.Proofs.YtolnhkmhfblhkaaGreatDoor
namespace Go.Proofs.YtolnhkmhfblhkaaGreatDoor
def J3:Nat:=3988292384
def G1 (r:Nat):Nat:=if r % 2=1 then(r / 2) ^^^ J3 else r / 2
def Aj:Nat->Nat->Nat
 |0,r=>r
 |n+1,r=>Aj n (G1 r)
def Eg (r bit:Nat):Nat:=if r % 2≠bit then(r / 2) ^^^ J3 else r / 2
def K9:Nat->Nat->Nat->Nat
 |0,r,_=>r
 |n+1,r,c=>K9 n (Eg r (c % 2)) (c / 2)
theorem Kz (a b:Nat):(a ^^^ b) / 2=(a / 2) ^^^ (b / 2):=by
 have:=Nat.shiftRight_xor_distrib (a:=a) (b:=b) (i:=1);simpa[Nat.shiftRight_succ]using this
theorem Lg (a b:Nat):(a ^^^ b) % 2=(a % 2+b % 2) % 2:=by
 have h:=Nat.testBit_xor a b 0;simp only[Nat.testBit_zero]at h;have ha:=Nat.mod_two_eq_zero_or_one a;have hb:=Nat.mod_two_eq_zero_or_one b;have hc:=Nat.mod_two_eq_zero_or_one (a ^^^ b);rcases ha with ha|ha<;>rcases hb with hb|hb<;>rcases hc with hc|hc<;>simp[ha,hb,hc]at h ⊢
theorem K1 (a b c d:Nat):(a ^^^ b) ^^^ (c ^^^ d)=(a ^^^ c) ^^^ (b ^^^ d):=by
 rw[Nat.xor_assoc,Nat.xor_assoc,<-Nat.xor_assoc b c d,Nat.xor_comm b c,Nat.xor_assoc]
theorem Eo (a b:Nat):G1 (a ^^^ b)=G1 a ^^^ G1 b:=by
 have h:=Lg a b;unfold G1;rw[Kz];by_cases ha:a % 2=1<;>by_cases hb:b % 2=1
 . have hc: ¬(a ^^^ b) % 2=1:=by omega
   rw[if_neg hc,if_pos ha,if_pos hb,K1,Nat.xor_self,Nat.xor_zero]
 . have hc:(a ^^^ b) % 2=1:=by omega
   rw[if_pos hc,if_pos ha,if_neg hb,Nat.xor_assoc,Nat.xor_comm (b / 2),<-Nat.xor_assoc]
 . have hc:(a ^^^ b) % 2=1:=by omega
   rw[if_pos hc,if_neg ha,if_pos hb,Nat.xor_assoc]
 . have hc: ¬(a ^^^ b) % 2=1:=by omega
   rw[if_neg hc,if_neg ha,if_neg hb]
theorem Jh: ∀(n a b:Nat),Aj n (a ^^^ b)=Aj n a ^^^ Aj n b
 |0,_,_=>rfl
 |n+1,a,b=>by simp only[Aj];rw[Eo,Jh n]
theorem J6 (c:Nat):G1 c=G1 (c % 2) ^^^ (c / 2):=by
 unfold G1;have:c % 2 / 2=0:=by omega
 rw[Nat.mod_mod,this]
 split
 . rw[Nat.zero_xor,Nat.xor_comm]
 . rw[Nat.zero_xor]
theorem Jb (r bit:Nat) (hb:bit<2):Eg r bit=G1 (r ^^^ bit):=by
 rw[Eo];unfold Eg G1;have h0:bit / 2=0:=by omega
 rw[h0];rcases Nat.lt_or_ge bit 1 with h|h
 . obtain rfl:bit=0:=by omega
   by_cases hr:r % 2=1
   . rw[if_pos (by omega),if_pos hr];simp
   . rw[if_neg (by omega),if_neg hr];simp
 . obtain rfl:bit=1:=by omega
   by_cases hr:r % 2=1
   . rw[if_neg (by omega),if_pos hr];simp[Nat.xor_assoc]
   . rw[if_pos (by omega),if_neg hr];simp
theorem Kp: ∀(n r c:Nat),c<2 ^ n->K9 n r c=Aj n (r ^^^ c)
 |0,r,c,h=>by
  obtain rfl:c=0:=by simpa using h
  simp[K9,Aj]
 |n+1,r,c,h=>by
  simp only[K9,Aj];rw[Kp n _ _ (by rw[Nat.pow_succ]at h;omega),Jb _ _ (by omega),Eo r c,J6 c,Eo r (c % 2),Nat.xor_assoc]
theorem Fq: ∀(n x:Nat),Aj n (x*2 ^ n)=x
 |0,x=>by simp[Aj]
 |n+1,x=>by
  have h:x*2 ^ (n+1)=2*(x*2 ^ n):=by rw[Nat.pow_succ,<-Nat.mul_assoc,Nat.mul_comm]
  have h2:G1 (2*(x*2 ^ n))=x*2 ^ n:=by
   unfold G1;rw[if_neg (by omega)];omega
  simp only[Aj];rw[h,h2,Fq n x]
theorem Lf (r:Nat):r=(r / 16*2 ^ 4) ^^^ (r % 16):=by
 apply Nat.eq_of_testBit_eq;intro i;rw[Nat.testBit_xor,show r / 16*2 ^ 4=(r / 16) <<< 4 from(Nat.shiftLeft_eq _ _).symm,Nat.testBit_shiftLeft,show r % 16=r % 2 ^ 4 from rfl,Nat.testBit_mod_two_pow];by_cases hi:i<4
 . simp[hi,show ¬i≥4 from by omega]
 . have:(r / 16).testBit (i - 4)=r.testBit i:=by
    rw[show r / 16=r >>> 4 from(Nat.shiftRight_eq_div_pow r 4).symm,Nat.testBit_shiftRight]
    congr 1;omega
   simp[hi,show i≥4 from by omega,this]
def Lq (r:Nat):Nat:=(r / 16) ^^^ Aj 4 (r % 16)
theorem It (r:Nat):Lq r=Aj 4 r:=by
 unfold Lq
 conv=>rhs;rw[Lf r]
 rw[Jh,Fq]
theorem F6: ∀(m n r:Nat),Aj (m+n) r=Aj n (Aj m r)
 |0,n,r=>by simp[Aj]
 |m+1,n,r=>by rw[show m+1+n=(m+n)+1 from by omega];simp only[Aj];exact F6 m n _
theorem K7 (r:Nat):Lq (Lq r)=Aj 8 r:=by rw[It,It,<-F6]
theorem Ks {r:Nat} (h:r<4294967296):G1 r<4294967296:=by
 unfold G1
 split
 . exact Nat.xor_lt_two_pow (n:=32) (by omega) (by unfold J3;omega)
 . omega
theorem D3: ∀(n:Nat) {r:Nat},r<4294967296->Aj n r<4294967296
 |0,_,h=>h
 |n+1,_,h=>D3 n (Ks h)
@[irreducible] def st8 (r:Nat):Nat:=Aj 8 r
theorem I2 (r:Nat):st8 r=Aj 8 r:=by unfold st8;rfl
def Bh (r:Nat) (l:List UInt8):Nat:=l.foldl (fun a x=>st8 (a ^^^ x.toNat)) r
def Ap (s:Nat) (l:List UInt8):Nat:=4294967295 - Bh (4294967295 - s) l
theorem H7 {r:Nat} (x:UInt8) (h:r<4294967296):st8 (r ^^^ x.toNat)<4294967296:=by
 have hx:x.toNat<4294967296:=by have:=x.toNat_lt;omega
 rw[I2];exact D3 8 (Nat.xor_lt_two_pow (n:=32) h hx)
theorem H6 (r:Nat) (x:UInt8) (t:List UInt8):Bh r (x::t)=Bh (st8 (r ^^^ x.toNat)) t:=List.foldl_cons ..
theorem Dm (l:List UInt8): ∀{r:Nat},r<4294967296->Bh r l<4294967296:=by
 induction l with
 |nil=>intro r h;exact h
 |cons x t ih=>
  intro r h;rw[H6];exact ih (H7 x h)
theorem Et (l:List UInt8) (r:Nat) (x:UInt8):Bh r (l++ [x])=st8 (Bh r l ^^^ x.toNat):=by
 unfold Bh;rw[List.foldl_append];rfl
theorem Df (s:Nat) (l:List UInt8):Ap s l<4294967296:=by unfold Ap;omega
def Dt (s:Nat):List UInt8:= [UInt8.ofNat (s % 256),UInt8.ofNat (s / 256 % 256),UInt8.ofNat (s / 65536 % 256),UInt8.ofNat (s / 16777216 % 256)]
def B7 (l:List UInt8):List UInt8:=l++Dt (Ap 0 l)
end Go.Proofs.YtolnhkmhfblhkaaGreatDoor
