/- Parts: patch.zero, patch.follows, patch.strange. No condition. -/
import Derived.Test.YtjgfchcldhmjcaaGreatDoorKPp11
import Derived.Test.YtjgfchcldhmjcaaGreatDoorKPp12
set_option maxHeartbeats 20000000
set_option maxRecDepth 100000
namespace Go.Proofs.YtjgfchcldhmjcaaGreatDoor
open Go.RowKit
def Kt (w:World) (g:Nat) (v:Val) (c:List Value) (w':World):Prop:=
 Below w.heap.size w w'/\w'.heap[g]? =some (.cells c.toArray 42 (0,0))/\Cj w'/\Ab w' w'.heap.size v c
theorem Kt.step {w w' b:World} {g:Nat} {v:Val} {c:List Value} (h:Kt w g v c w') (a:Below w'.heap.size w' b):Kt w g v c b:=by
 obtain⟨d,e,f,i⟩:=h;exact⟨d.trans (a.mono d.size),(a.block _ (Array.getElem?_eq_some_iff.1 e).1).trans e,f.below a,Ab.more a.size _ _ (i.below a)⟩
theorem Kt.start {w:World} {v:Val} {c:List Value} (b:Cj w) (d:Ab w w.heap.size v c):Kt w w.heap.size v c (w.alloc (.cells c.toArray 42)):=by
 have a:Below w.heap.size w (w.alloc (.cells c.toArray 42)):=(Below.refl _ _).alloc (Nat.le_refl _) _;exact⟨a,heap_alloc_new _ _,b.below a,Ab.more a.size _ _ (d.below a)⟩
theorem Kt.cells {w w':World} {g:Nat} {v:Val} {k:Int} {b:Bool} {n:Int} {t:ByteArray} {x y:Value} (h:Kt w g v [.int .i64 k,.bool b,.int .i64 n,.string t,x,y] w'):
 w'.cell? ⟨g,0,none⟩=some (.int .i64 k)/\w'.cell? ⟨g,1,none⟩=some (.bool b)/\w'.cell? ⟨g,2,none⟩=some (.int .i64 n)/\w'.cell? ⟨g,3,none⟩=some (.string t)/\w'.cell? ⟨g,4,none⟩=some x/\w'.cell? ⟨g,5,none⟩=some y:=
 Vp h.2.1
theorem Kt.tabs {w w':World} {g:Nat} {v:Val} {c:List Value} (h:Kt w g v c w'):Cj w':=h.2.2.1
theorem Kt.below {w w':World} {g:Nat} {v:Val} {c:List Value} (h:Kt w g v c w'):Below w.heap.size w w':=h.1
def Fz (v:Val):Int:=if A0 v 1=0 then(if 16<Ej v then 5 else if 1024<(Bd v).length then 6 else 0)else A0 v 1
theorem Aby (v:Val) (cs:List Value) (w:World) (A:Cj w) (u:Ab w w.heap.size v cs) (B:v.bulk<=100000000) (x:I9 v):
 Calls Tryz.prog 73 #[.agg cs.toArray] w fun e w'=>e=.returned (.int .i64 (Fz v))/\Below w.heap.size w w':=by
 have p:=u;obtain⟨k,b,n,t,l,o⟩:=v;simp only[Ab]at p;obtain⟨E,F,G,oc,rfl,_,_⟩:=p;have f:=qz (Kt.start A u);obtain⟨v,C⟩: ∃v,Val.mk k b n t l o=v:=⟨_,rfl⟩;rw[C]at x B f ⊢;have j:=fun w' (h:Kt w w.heap.size v (Eb k b n t E l.length F G o.length oc) w')=>Pw v _ w' h.tabs h.2.2.2 (by omega);unfold Fz;by_cases g:A0 v 1=0
 . have r:=X6 v 1 g x;have y:=fun w' (h:Kt w w.heap.size v (Eb k b n t E l.length F G o.length oc) w')=>Zd v _ w' h.tabs h.2.2.2 (by omega) r;have z:=fun w' (h:Kt w w.heap.size v (Eb k b n t E l.length F G o.length oc) w')=>Ace v _ w' h.2.2.2 (by omega);rw[if_pos g];rw[g]at j;generalize (Bd v).length=L at y ⊢;generalize Ej v=D at z ⊢;obtain⟨N,H,s⟩:=hid3 y z j;clear y j z g x B A u C r;by_cases I:16<D
   . rw[if_pos I];go_enter Tryz.func73,Tryz.ntmps73;go_wp2_with (fail);(with_reducible refine(s.out _ f.out).mono ?_);rintro e K ⟨rfl,a⟩;have c:=qz (f.out.step a);obtain⟨d0,d1,d2,d3,d4,d5⟩:=c.out.cells;clear a f;go_wp2_with (fail);(with_reducible refine(H.out _ c.out).mono ?_);rintro e Q ⟨rfl,d⟩;have i:=qz (c.out.step d);clear d0 d1 d2 d3 d4 d5 d c;go_wp2;go_ret;exact⟨rfl,i.out.below⟩
   . rw[if_neg I];by_cases J:1024<L
     all_goals
      (first|rw[if_pos J]|rw[if_neg J])
      go_enter Tryz.func73,Tryz.ntmps73;go_wp2_with (fail);(with_reducible refine(s.out _ f.out).mono ?_);rintro e K ⟨rfl,a⟩;have c:=qz (f.out.step a);obtain⟨d0,d1,d2,d3,d4,d5⟩:=c.out.cells;clear a f;go_wp2_with (fail);(with_reducible refine(H.out _ c.out).mono ?_);rintro e Q ⟨rfl,d⟩;have i:=qz (c.out.step d);clear d0 d1 d2 d3 d4 d5 d c;obtain⟨d0,d1,d2,d3,d4,d5⟩:=i.out.cells;go_wp2_with (fail);(with_reducible refine(N.out _ i.out).mono ?_);rintro e w4 ⟨rfl,q⟩;have M:=qz (i.out.step q);clear d0 d1 d2 d3 d4 d5 q i;go_wp2;go_ret;exact⟨rfl,M.out.below⟩
 . rw[if_neg g];have O:(A0 v 1==0)=false:=by simpa using g
   have P:(A0 v 1 != 0)=true:=by simpa using g
   generalize A0 v 1=m at*
   have s:=qz j;clear j g x B A u C;go_enter Tryz.func73,Tryz.ntmps73;go_wp2_with (fail);(with_reducible refine(s.out _ f.out).mono ?_);rintro e K ⟨rfl,a⟩;have c:=qz (f.out.step a);clear a f;go_wp2;go_ret;exact⟨rfl,c.out.below⟩
theorem Yy (v:Val) (cs:List Value) (w:World) (A:Cj w) (s:Ab w w.heap.size v cs) (B:v.bulk<=100000000) (u:I9 v):
 Calls Tryz.prog 34 #[.agg cs.toArray] w fun e w'=>e=.returned (.int .i64 (Fz v))/\Below w.heap.size w w':=by
 have p:=s;obtain⟨k,b,n,t,l,o⟩:=v;simp only[Ab]at p;obtain⟨E,F,G,oc,rfl,_,_⟩:=p;have f:=qz (Kt.start A s);obtain⟨v,C⟩: ∃v,Val.mk k b n t l o=v:=⟨_,rfl⟩;rw[C]at u B f ⊢;have j:=fun w' (h:Kt w w.heap.size v (Eb k b n t E l.length F G o.length oc) w')=>Sl v _ w' h.2.2.2 (by omega);unfold Fz;by_cases g:A0 v 1=0
 . have x:=fun w' (h:Kt w w.heap.size v (Eb k b n t E l.length F G o.length oc) w')=>Aa9 v _ w' 1 h.2.2.2 (by omega) g u;have y:=fun w' (h:Kt w w.heap.size v (Eb k b n t E l.length F G o.length oc) w')=>Aa0 v _ w' h.2.2.2 (by omega);obtain⟨S,z⟩: ∃S:ByteArray,(⟨(Bd v).toArray⟩:ByteArray)=S:=⟨_,rfl⟩;have I:(Bd v).length=S.size:=by rw[<-z,M5]
   rw[if_pos g,I];rw[g]at j;rw[z]at x;generalize Ej v=D at y ⊢;obtain⟨N,H,r⟩:=hid3 x y j;clear x j y g u B A s C z I;by_cases J:16<D
   . rw[if_pos J];go_enter Tryz.func34,Tryz.ntmps34;go_wp2_with (fail);(with_reducible refine(r.out _ f.out).mono ?_);rintro e L ⟨rfl,a⟩;have c:=qz (f.out.step a);obtain⟨d0,d1,d2,d3,d4,d5⟩:=c.out.cells;clear a f;go_wp2_with (fail);(with_reducible refine(H.out _ c.out).mono ?_);rintro e Q ⟨rfl,d⟩;have i:=qz (c.out.step d);clear d0 d1 d2 d3 d4 d5 d c;go_wp2;go_ret;exact⟨rfl,i.out.below⟩
   . rw[if_neg J];by_cases K:1024<S.size
     all_goals
      (first|rw[if_pos K]|rw[if_neg K])
      go_enter Tryz.func34,Tryz.ntmps34;go_wp2_with (fail);(with_reducible refine(r.out _ f.out).mono ?_);rintro e L ⟨rfl,a⟩;have c:=qz (f.out.step a);obtain⟨d0,d1,d2,d3,d4,d5⟩:=c.out.cells;clear a f;go_wp2_with (fail);(with_reducible refine(H.out _ c.out).mono ?_);rintro e Q ⟨rfl,d⟩;have i:=qz (c.out.step d);clear d0 d1 d2 d3 d4 d5 d c;obtain⟨d0,d1,d2,d3,d4,d5⟩:=i.out.cells;go_wp2_with (fail);(with_reducible refine(N.out _ i.out).mono ?_);rintro e w4 ⟨rfl,q⟩;have M:=qz (i.out.step q);clear d0 d1 d2 d3 d4 d5 q i;go_wp2;go_ret;exact⟨rfl,M.out.below⟩
 . rw[if_neg g];have O:(A0 v 1==0)=false:=by simpa using g
   have P:(A0 v 1 != 0)=true:=by simpa using g
   generalize A0 v 1=m at*
   have r:=qz j;clear j g u B A s C;go_enter Tryz.func34,Tryz.ntmps34;go_wp2_with (fail);(with_reducible refine(r.out _ f.out).mono ?_);rintro e L ⟨rfl,a⟩;have c:=qz (f.out.step a);clear a f;go_wp2;go_ret;exact⟨rfl,c.out.below⟩
structure POp where
 k:Int
 key:ByteArray
 v:Val
def dQ (p:POp):D:=.agg [.leaf (.int .i64 p.k),.leaf (.string p.key),dV p.v]
theorem Kn (p:POp):(dQ p).cells=8:=by simp only[dQ,D.cells,Kg,D7]
def Eo (l:List POp):List D:=l.map dQ
theorem Py (l:List POp): ∀d ∈ Eo l,d.cells=8:=by
 intro d a;obtain⟨v,_,rfl⟩:=List.mem_map.1 a;exact Kn v
theorem E8 (l:List POp):(Eo l).length=l.length:=List.length_map ..
def Da:List POp->Nat
 | []=>0
 |p::r=>2+p.key.size+p.v.bulk+Da r
theorem Jn {l:List POp} {p:POp} (h:p ∈ l):2+p.key.size+p.v.bulk<=Da l:=by
 induction l with
 |nil=>cases h
 |cons x r ih=>
  simp only[Da];rcases List.mem_cons.1 h with rfl|h
  . omega
  . have:=ih h;omega
theorem Gp (l:List POp):8*l.length<=Da l:=by
 induction l with
 |nil=>simp[Da]
 |cons x r ih=>simp only[Da,List.length_cons];have:=x.v.bulk_pos;omega
def inQ (l:List POp):Prop:= ∀p ∈ l,I9 p.v
def O8 (k:ByteArray):Bool:= !k.toList.isEmpty&&(decide (k.size<=64)&&A6 k)
def O9 (k:ByteArray):Int:=if k.toList.isEmpty then 8 else if 64<k.size then 6 else if A6 k then 0 else 3
theorem Mv (k:ByteArray):O9 k=0 ↔ O8 k=true:=by
 unfold O9 O8
 cases k.toList.isEmpty<;>by_cases h:64<k.size<;>cases A6 k<;>simp[h]<;>omega
def Pu:Val->Bool
 | .mk k b n t l o=>I8 k b n t l.length o.length
def Cy (p:POp):Bool:=if p.k=1 then false else if p.k=2 then !Pu p.v else if p.k=3 then !p.key.toList.isEmpty|| !Pu p.v else true
def G3 (q p:POp):Bool:=decide (p.k≠3)&&(decide (q.k=3)||Op.bytesLess q.key.toList p.key.toList)
def A8:Option POp->List POp->Int
 |_, []=>0
 |prev,p::r=>
  if Cy p||prev.any (fun q=> !G3 q p)then 2
  else if p.k=3 then A8 (some p) r
  else if O8 p.key=false then 8
  else if p.k=2 then A8 (some p) r
  else if Fz p.v=0 then A8 (some p) r else Fz p.v
inductive Mut where
 |mk (k:Int) (key dst:ByteArray) (n:Int) (had:Bool) (was:Val) (has:Bool) (v:Val) (l:List Mut)
theorem Mut.ind {p:Mut->Prop} (h: ∀k key dst n a b has v l,(∀m ∈ l,p m)->p (.mk k key dst n a b has v l)): ∀m,p m:=by
 intro m;refine Mut.rec (motive_1:=p) (motive_2:=fun l=> ∀m ∈ l,p m) ?_ ?_ ?_ m
 . intro k key dst n a b has v l e;exact h _ _ _ _ _ _ _ _ _ e
 . intro m c
   cases c
 . intro m r c f x d;rcases List.mem_cons.1 d with rfl|d
   . exact c
   . exact f x d
mutual
def dM:Mut->D
 | .mk k key dst n had was has v l=> .agg [.leaf (.int .i64 k),.leaf (.string key),.leaf (.string dst),.leaf (.int .i64 n),.leaf (.bool had),dV was,.leaf (.bool has),dV v,.row 19 (dMs l)]
def dMs:List Mut->List D
 | []=> []
 |m::r=>dM m::dMs r
end
mutual
def Am9:Mut->Nat
 | .mk _ key dst _ _ was _ v l=>8+key.size+dst.size+was.bulk+v.bulk+Ahw l
def Ahw:List Mut->Nat
 | []=>0
 |m::r=>Am9 m+Ahw r
end
mutual
def inM:Mut->Prop
 | .mk _ _ _ n _ was _ v l=>(-9223372036854775808<=n/\n<=9223372036854775807)/\I9 was/\I9 v/\Anc l
def Anc:List Mut->Prop
 | []=>True
 |m::r=>inM m/\Anc r
end
mutual
def Ans:Mut->Nat
 | .mk _ _ _ _ _ _ _ _ l=>1+Aj4 l
def Aj4:List Mut->Nat
 | []=>0
 |m::r=>Ans m+Aj4 r
end
def Am8 (k:Int) (dst:ByteArray) (n:Int) (had wasZ has valZ:Bool) (ln:Nat):Bool:=
 decide (1<=k)&&decide (k<=7)&&(decide (k=6)||dst.toList.isEmpty)&&(decide (k=3)||decide (n=0))&&(decide (k=4)||decide (k=7)|| !had)&&(decide (k=4)|| !has)&&(had||wasZ)&&(decide (k=1)||decide (k=5)||(decide (k=4)&&has)||valZ)&&(decide (k=7)||decide (ln=0))
def Aj2 (s:ByteArray):Bool:=decide (s.size<=64)&&A6 s
def Amq (k:Int) (key dst:ByteArray) (had:Bool):Bool:=if k=6 then Aj2 key&&Aj2 dst else if k=7/\key.toList.isEmpty=true then !had else O8 key
mutual
def Ann:Mut->Int->Int
 | .mk k key dst n had was has v l,d=>
   if Am8 k dst n had (Pu was) has (Pu v) l.length=false then 9 else if 6<d then 5 else if Amq k key dst had=false then 8
   else if had=true/\Fz was≠0 then Fz was else if(has||decide (k=1)||decide (k=5))=true/\Fz v≠0 then Fz v else Alu l (d+1)
def Alu:List Mut->Int->Int
 | [],_=>0
 |m::r,d=>if Ann m d=0 then Alu r d else Ann m d
end
structure Num where
 id:Int
 m:Mut
abbrev Lf:ByteArray:=⟨#[]⟩
abbrev Aw:ByteArray:=⟨#[107,101,121]⟩
abbrev Cf:ByteArray:=⟨#[111,112]⟩
abbrev Bu:ByteArray:=⟨#[118,97,108,117,101]⟩
abbrev G6:ByteArray:=⟨#[112,117,116]⟩
abbrev Ic:ByteArray:=⟨#[100,101,108]⟩
abbrev Du:ByteArray:=⟨#[99,108,101,97,114]⟩
def tv (s:ByteArray):Val:=.mk 4 false 0 s [] []
def iv (n:Int):Val:=.mk 3 false n Lf [] []
def lv (l:List Val):Val:=.mk 5 false 0 Lf l []
def ov (o:List (ByteArray×Val)):Val:=.mk 6 false 0 Lf [] o
def I7 (p:POp):Val:=ov (if p.k=1 then [(Aw,tv p.key),(Cf,tv G6),(Bu,p.v)]else if p.k=2 then [(Aw,tv p.key),(Cf,tv Ic)]else [(Cf,tv Du)])
def E0 (l:List POp):Val:=lv (l.map I7)
theorem Tu:A6 Lf=true:=by decide
theorem Am0 (s:ByteArray):Fo 4 false 0 s 0 0=false:=by simp[Fo]
theorem Amy (n:Nat):Fo 5 false 0 Lf n 0=false:=by simp[Fo,Lib.toList_data]
theorem Amz (n:Nat):Fo 6 false 0 Lf 0 n=false:=by simp[Fo,Lib.toList_data]
theorem Ac1 {k:Int} {b:Bool} {n:Int} {t:ByteArray} {l:List Val} {o:List (ByteArray×Val)} {d:Int} (a:Fo k b n t l.length o.length=false) (g:d<=64) (c:A6 t=true) (e:Dn l (d+1)=0) (f:Di o none (d+1)=0):A0 (.mk k b n t l o) d=0:=by
 simp only[A0];rw[if_neg (by rw[a];simp),if_neg (by omega),if_pos c,if_pos e];exact f
theorem To {s:ByteArray} {d:Int} (h:A6 s=true) (a:d<=64):A0 (tv s) d=0:=Ac1 (Am0 s) a h (by simp[Dn]) (by simp[Di])
theorem Amu {l:List Val} {d:Int} (a:d<=64) (h:Dn l (d+1)=0):A0 (lv l) d=0:=Ac1 (Amy _) a Tu h (by simp[Di])
theorem Amv {o:List (ByteArray×Val)} {d:Int} (a:d<=64) (h:Di o none (d+1)=0):A0 (ov o) d=0:=Ac1 (Amz _) a Tu (by simp[Dn]) h
theorem Jo {key:ByteArray} {v:Val} {r:List (ByteArray×Val)} {d:Int} (e:A6 key=true) (b:A0 v d=0) {a:Option ByteArray} (f: ∀q,a=some q->leB key q=false) (g:Di r (some key) d=0):Di ((key,v)::r) a d=0:=by
 have c:Ob (key,v) a d=0:=by
  simp only[Ob];rw[if_pos e]
  cases a with
  |none=>exact b
  |some q=>
   simp only;rw[if_neg (by rw[f q rfl];simp)];exact b
 simp only[Di];rw[if_pos c];exact g
def okQ (p:POp):Prop:=(p.k=1/\O8 p.key=true/\Fz p.v=0)\/(p.k=2/\O8 p.key=true)\/p.k=3
theorem Gh: ∀{l:List POp} {prev:Option POp},A8 prev l=0-> ∀p ∈ l,okQ p
 |p::r,prev,h,x,a=>by
  simp only[A8]at h;by_cases f:(Cy p||prev.any fun q=> !G3 q p)=true
  . rw[if_pos f]at h;cases h
  rw[if_neg f]at h;by_cases i:p.k=3
  . rw[if_pos i]at h;rcases List.mem_cons.1 a with rfl|a
    . exact .inr (.inr i)
    . exact Gh h x a
  rw[if_neg i]at h;by_cases m:O8 p.key=false
  . rw[if_pos m]at h;cases h
  rw[if_neg m]at h;have d:O8 p.key=true:=by simpa using m
  by_cases g:p.k=2
  . rw[if_pos g]at h;rcases List.mem_cons.1 a with rfl|a
    . exact .inr (.inl ⟨g,d⟩)
    . exact Gh h x a
  rw[if_neg g]at h;by_cases j:Fz p.v=0
  . rw[if_pos j]at h;rcases List.mem_cons.1 a with rfl|a
    . refine .inl ⟨?_,d,j⟩;have b:Cy x=false:=by
       cases e:Cy x with
       |false=>rfl
       |true=>rw[e]at f;simp at f
      unfold Cy at b;by_cases c:x.k=1
      . exact c
      . rw[if_neg c,if_neg g,if_neg i]at b;cases b
    . exact Gh h x a
  . rw[if_neg j]at h;exact absurd h j
theorem Tj {k:ByteArray} (h:O8 k=true):A6 k=true:=by
 unfold O8 at h;simp only[Bool.and_eq_true]at h;exact h.2.2
theorem Acl {v:Val} (h:Fz v=0):A0 v 1=0/\Ej v<=16/\(Bd v).length<=1024:=by
 unfold Fz at h;by_cases a:A0 v 1=0
 . rw[if_pos a]at h;by_cases b:16<Ej v
   . rw[if_pos b]at h;cases h
   rw[if_neg b]at h;by_cases c:1024<(Bd v).length
   . rw[if_pos c]at h;cases h
   exact⟨a,by omega,by omega⟩
 . rw[if_neg a]at h;exact absurd h a
theorem Ai7 {p:POp} {d:Int} (h:okQ p) (l:d<=40):A0 (I7 p) d=0:=by
 have v1:A6 Aw=true:=by decide
 have a:A6 Cf=true:=by decide
 have g:A6 Bu=true:=by decide
 have w1:A6 G6=true:=by decide
 have i:A6 Ic=true:=by decide
 have j:A6 Du=true:=by decide
 have b:leB Cf Aw=false:=by decide+kernel
 have f:leB Bu Cf=false:=by decide+kernel
 unfold I7;refine Amv (by omega) ?_;rcases h with⟨h,hk,hf⟩|⟨h,hk⟩|h
 . rw[if_pos h];obtain⟨c,k,_⟩:=Acl hf;exact Jo v1 (To (Tj hk) (by omega)) (fun _ e=>by cases e) (Jo a (To w1 (by omega)) (fun q e=>by cases e;exact b) (Jo g (Z9 p.v _ 1 c (by omega)) (fun q e=>by cases e;exact f) (by simp[Di])))
 . rw[if_neg (by omega),if_pos h];exact Jo v1 (To (Tj hk) (by omega)) (fun _ e=>by cases e) (Jo a (To i (by omega)) (fun q e=>by cases e;exact b) (by simp[Di]))
 . rw[if_neg (by omega),if_neg (by omega)];exact Jo a (To j (by omega)) (fun _ e=>by cases e) (by simp[Di])
theorem Ai5 {l:List Val} {d:Int} (h: ∀v ∈ l,A0 v d=0):Dn l d=0:=by
 induction l with
 |nil=>simp[Dn]
 |cons v r ih=>
  simp only[Dn];rw[if_pos (h v (by simp))];exact ih fun x a=>h x (by simp[a])
theorem Qc {l:List POp} {d:Int} (h: ∀p ∈ l,okQ p) (c:d<=39):A0 (E0 l) d=0:=by
 refine Amu (by omega) (Ai5 fun v b=> ?_);obtain⟨p,a,rfl⟩:=List.mem_map.1 b;exact Ai7 (h p a) (by omega)
theorem Akz {p:POp} (h:I9 p.v):I9 (I7 p):=by
 unfold I7 ov;simp only[I9];refine⟨by omega,by simp[Na], ?_⟩;have a: ∀s,I9 (tv s):=fun s=>by simp only[tv,I9,Na,I6];exact⟨by omega,trivial,trivial⟩
 by_cases b:p.k=1
 . rw[if_pos b];exact⟨a p.key,a G6,h,trivial⟩
 . rw[if_neg b];by_cases c:p.k=2
   . rw[if_pos c];exact⟨a p.key,a Ic,trivial⟩
   . rw[if_neg c];exact⟨a Du,trivial⟩
theorem Th {l:List POp} (h:inQ l):I9 (E0 l):=by
 unfold E0 lv;simp only[I9];refine⟨by omega, ?_,by simp[I6]⟩
 induction l with
 |nil=>simp[Na]
 |cons p r ih=>
  simp only[List.map_cons,Na];exact⟨Akz (h p (by simp)),ih fun x a=>h x (by simp[a])⟩
theorem Afc (p:POp):(I7 p).bulk<=60+p.key.size+p.v.bulk:=by
 have a:(⟨#[]⟩:ByteArray).size=0:=rfl;have c:Aw.size=3:=rfl;have b:Cf.size=2:=rfl;have d:Bu.size=5:=rfl;have e:G6.size=3:=rfl;have f:Ic.size=3:=rfl;have g:Du.size=5:=rfl;unfold I7 ov
 split
 . simp only[Val.bulk,A5,Af,E7,tv,a,c,b,d,e];omega
 . split
   . simp only[Val.bulk,A5,Af,E7,tv,a,c,b,f];omega
   . simp only[Val.bulk,A5,Af,E7,tv,a,b,g];omega
theorem Ny (l:List POp):(E0 l).bulk<=6+60*l.length+Da l:=by
 have a:(⟨#[]⟩:ByteArray).size=0:=rfl;have h:A5 (l.map I7)<=60*l.length+Da l:=by
  induction l with
  |nil=>simp[A5]
  |cons p r ih=>
   have:=Afc p;simp only[List.map_cons,A5,Da,List.length_cons];omega
 unfold E0 lv;simp only[Val.bulk,Af,a];omega
theorem Ado (s:ByteArray) (w:World) (h:s.size<=1000000000):Calls Tryz.prog 33 #[.string s] w fun e w'=>e=.returned (.int .i64 (O9 s))/\w=w':=by
 obtain⟨B,d⟩: ∃B,A6 s=B:=⟨_,rfl⟩;have f:=qz (fun W=>Cm d W h);have g:s.toList.isEmpty=decide (s.size=0):=by
  rw[Lib.toList_data,Lib.size_eq];cases s.data.toList<;>simp
 have a:O9 s=if s.size=0 then 8 else if 64<s.size then 6 else if B then 0 else 3:=by
  unfold O9;rw[g,d];simp
 clear d g;by_cases h0:s.size=0
 . rw[if_pos h0]at a;have i:((s.size:Int)==0)=true:=by rw[beq_iff_eq];omega
   have b:=qz a;clear a;clear h0;go_enter Tryz.func33,Tryz.ntmps33;go_wp2;go_ret;exact⟨by rw[b.out];rfl,rfl⟩
 rw[if_neg h0]at a;have i:((s.size:Int)==0)=false:=by rw[beq_eq_false_iff_ne];omega
 by_cases c:64<s.size
 . rw[if_pos c]at a;have j:(64:Int)<(s.size:Int):=by omega
   have b:=qz a;clear a;clear h0 c;go_enter Tryz.func33,Tryz.ntmps33;go_wp2;go_ret;exact⟨by rw[b.out];rfl,rfl⟩
 rw[if_neg c]at a;have j:(s.size:Int)<=64:=by omega
 have b:=qz a;clear a;clear h0 c
 cases B with
 |true=>
  go_enter Tryz.func33,Tryz.ntmps33;go_wp2_with (go_at_call 66;(with_reducible refine(f.out _).mono ?_);rintro e k ⟨rfl,rfl⟩);go_ret;exact⟨by rw[b.out];rfl,rfl⟩
 |false=>
  go_enter Tryz.func33,Tryz.ntmps33;go_wp2_with (go_at_call 66;(with_reducible refine(f.out _).mono ?_);rintro e k ⟨rfl,rfl⟩);go_ret;exact⟨by rw[b.out];rfl,rfl⟩
abbrev Pv:Val:=.mk 0 false 0 ⟨#[]⟩ [] []
theorem Ahd (v:Val):Pu v=true ↔ v=Pv:=by
 obtain⟨k,b,n,t,l,o⟩:=v;simp only[Pu,I8,Bool.and_eq_true,decide_eq_true_eq,Bool.not_eq_true',List.length_eq_zero_iff,List.isEmpty_iff,Val.mk.injEq];constructor
 . rintro⟨⟨⟨⟨⟨rfl,rfl⟩,rfl⟩,ht⟩,rfl⟩,rfl⟩;refine⟨rfl,rfl,rfl, ?_,rfl,rfl⟩;rw[Lib.toList_data]at ht;exact ByteArray.ext (Array.ext' ht)
 . rintro⟨rfl,rfl,rfl,rfl,rfl,rfl⟩;exact⟨⟨⟨⟨⟨rfl,rfl⟩,rfl⟩,by rw[Lib.toList_data]⟩,rfl⟩,rfl⟩
theorem N9 (w:World) (B:Nat):Ab w B Pv [.int .i64 0,.bool false,.int .i64 0,.string ⟨#[]⟩,.slice none 0 0,.slice none 0 0]:=by
 simp only[Ab];exact⟨none,0,none,0,rfl,by simp,by simp⟩
theorem Abc (v:Val) (cs:List Value) (w:World) (c:Ab w w.heap.size v cs) (f:v.bulk<=100000000) {B:Bool} (b:Pu v=B):
 Calls Tryz.prog 32 #[.agg cs.toArray,.agg #[.int .i64 0,.bool false,.int .i64 0,.string ⟨#[]⟩,.slice none 0 0,.slice none 0 0]] w fun e w'=>e=.returned (.bool B)/\Below w.heap.size w w':=by
 refine(Wk v Pv cs _ w c (N9 _ _) f (by simp[Val.bulk,A5,Af,ByteArray.size])).mono ?_;rintro e w' ⟨X,rfl,d,a⟩;refine⟨?_,a⟩;rw[<-Ahd,b]at d
 cases X<;>cases B<;>simp_all
theorem Amr (x y:List UInt8):(Op.bytesLess x y||x==y)= !Op.bytesLess y x:=by
 rcases Ab6 x y with h|h|h
 . have:Op.bytesLess y x=false:=by
    cases h2:Op.bytesLess y x with
    |false=>rfl
    |true=>have:=Oy h h2;rw[Jm]at this;cases this
   simp[h,this]
 . subst h;simp[Jm]
 . have a:Op.bytesLess x y=false:=by
    cases h2:Op.bytesLess x y with
    |false=>rfl
    |true=>have:=Oy h h2;rw[Jm]at this;cases this
   have b:(x==y)=false:=by
    rw[beq_eq_false_iff_ne];rintro rfl;rw[Jm]at h;cases h
   simp[h,a,b]
def Fx (x:List UInt8):Prop:= ∀c y,x=c::y->Ck c=false
def Lt (g:List UInt8):Prop:= ∀c ∈ g,Ef c=true
theorem Ca {s a x:List UInt8} {p:Nat} (h:s.drop p=a++x):s.drop (p+a.length)=x:=by
 rw[<-List.drop_drop,h,List.drop_left]
theorem L1 {s a x:List UInt8} {p:Nat} (h:s.drop p=a++x) (b:p<=s.length):p+a.length<=s.length:=by
 have:=congrArg List.length h;rw[List.length_drop,List.length_append]at this;omega
theorem B1 {s x:List UInt8} {p:Nat} {c:UInt8} (h:s.drop p=c::x):s[p]? =some c:=by
 have:=List.getElem?_drop (xs:=s) (i:=p) (j:=0);rw[h]at this;simpa using this.symm
theorem Fq: ∀{g:List UInt8},Lt g-> ∀{s x:List UInt8} {p:Nat},s.drop p=g++x->Ak s p=Ak s (p+g.length)
 | [],_,_,_,_,_=>rfl
 |c::g,hg,s,x,p,h=>by
  rw[Qg (B1 h) (hg c (by simp))];have b:s.drop (p+1)=g++x:=Ca (a:= [c]) (x:=g++x) (by simpa using h);rw[Fq (fun c d=>hg c (by simp[d])) b,List.length_cons]
  congr 1;omega
theorem Uk {f:Nat} {s:List UInt8} {p a:Nat} {d:Int} (h:Ak s p=Ak s a):Bb f s p d=Bb f s a d:=by
 cases f with
 |zero=>unfold Bb;rw[h]
 |succ f=>unfold Bb;rw[h]
def F2 (t:List UInt8) (v:Val) (d:Int):Prop:= ∀f s p x,p<=s.length->s.drop p=t++x->Fx x->4*(s.length - p)+1<=f-> ∃q,Bb f s p d=.ok v q/\Ak s q=Ak s (p+t.length)
theorem Fx.blanks {g x:List UInt8} (b:Lt g) (d:Fx x):Fx (g++x):=by
 intro c y h
 cases g with
 |nil=>exact d c y h
 |cons a g=>
  have:a=c:=(List.cons.inj h).1;subst this;have:=b a (by simp);unfold Ef at this;simp only[Bool.or_eq_true,beq_iff_eq]at this;rcases this with((rfl|rfl)|rfl)|rfl<;>decide
theorem Fx.of {c:UInt8} {y:List UInt8} (h:Ck c=false):Fx (c::y):=by
 intro a b e;rw[<-(List.cons.inj e).1];exact h
theorem Fx.nil:Fx []:=by intro c y e;cases e
theorem F2.ahead {t:List UInt8} {v:Val} {d:Int} (h:F2 t v d) {g:List UInt8} (k:Lt g):F2 (g++t) v d:=by
 intro f s p x l a m n;rw[List.append_assoc]at a;have b:=Fq k a;have c:=Ca a;have e:=L1 a l;obtain⟨q,i,j⟩:=h f s (p+g.length) x e c m (by omega);refine⟨q,by rw[Uk b];exact i, ?_⟩;rw[j,List.length_append]
 congr 1;omega
theorem En {f:Nat} {s:List UInt8} {p:Nat} {d:Int} {c:UInt8} (b:s[p]? =some c) (e:D9 c=true) (g:d<=64) (a:Ef c=false):Bb (f+1) s p d=
 (if c=91 then Hd f s p d
   else if c=123 then Lh f s p d
   else if c=34 then(Cs s p).map Abk
   else if c=110 then Cp s p [110,117,108,108] L7
   else if c=116 then Cp s p [116,114,117,101] (G9 true)
   else if c=102 then Cp s p [102,97,108,115,101] (G9 false)
   else(Cl s p).map Oa):=by
 conv=>lhs;unfold Bb
 rw[Dr b a,b];simp only;rw[if_neg (by rw[e];decide),if_neg (by omega)]
theorem Yt {s w x:List UInt8} {p:Nat} (h:s.drop p=w++x) (v:Val):Cp s p w v=.ok v (p+w.length):=by
 unfold Cp;rw[h,if_pos (by rw[List.isPrefixOf_iff_prefix];exact⟨x,rfl⟩)]
theorem Agp {d:Int} (c:d<=64):F2 [110,117,108,108] L7 d:=by
 intro f s p x g a h e;obtain⟨f,rfl⟩: ∃b,f=b+1:=⟨f - 1,by omega⟩;refine⟨_, ?_,rfl⟩;rw[En (B1 a) (by decide) c (by decide),if_neg (by decide),if_neg (by decide),if_neg (by decide),if_pos rfl];exact Yt a _
theorem Agr {d:Int} (c:d<=64):F2 [116,114,117,101] (G9 true) d:=by
 intro f s p x g a h e;obtain⟨f,rfl⟩: ∃b,f=b+1:=⟨f - 1,by omega⟩;refine⟨_, ?_,rfl⟩;rw[En (B1 a) (by decide) c (by decide),if_neg (by decide),if_neg (by decide),if_neg (by decide),if_neg (by decide),if_pos rfl];exact Yt a _
theorem Adn {d:Int} (c:d<=64):F2 [102,97,108,115,101] (G9 false) d:=by
 intro f s p x g a h e;obtain⟨f,rfl⟩: ∃b,f=b+1:=⟨f - 1,by omega⟩;refine⟨_, ?_,rfl⟩;rw[En (B1 a) (by decide) c (by decide),if_neg (by decide),if_neg (by decide),if_neg (by decide),if_neg (by decide),if_neg (by decide),if_pos rfl];exact Yt a _
theorem Sd {c:UInt8}:Ck c=true ↔ 48<=c.toNat/\c.toNat<=57:=by unfold Ck;simp
theorem Zq: ∀{a x:List UInt8},(∀c ∈ a,Ck c=true)->Fx x->P4 (a++x)=a.length
 | [], [],_,_=>rfl
 | [],c::y,_,hx=>by
   show P4 (c::y)=0;unfold P4;rw[if_neg (by rw[hx c y rfl];decide)]
 |c::a,x,ha,hx=>by
  rw[List.cons_append];unfold P4;rw[if_pos (ha c (by simp)),Zq (fun y b=>ha y (by simp[b])) hx,List.length_cons]
theorem S6 {u:Nat} (h:u≠0): ∃c y,F3 u=c::y/\c≠48:=by
 induction u using Nat.strongRecOn with
 |_ u ih=>
  rw[Kp h];by_cases h0:u / 10=0
  . rw[h0,Hy,List.nil_append];refine⟨_, [],rfl, ?_⟩;have b: ∀d:Fin 10,d.val≠0->dgt d.val≠48:=by decide
    exact b ⟨u % 10,by omega⟩ (by simp only;omega)
  . obtain⟨c,y,e,a⟩:=ih (u / 10) (by omega) h0;exact⟨c,y++ [dgt (u % 10)],by rw[e];rfl,a⟩
theorem Aks {u:Nat} (h:u≠0):F3 u≠ []:=by
 obtain⟨c,y,e,_⟩:=S6 h;rw[e];simp
theorem Aen {s a x:List UInt8} {f:Nat} (h:s.drop f=a++x) (b: ∀c ∈ a,Ck c=true) (d:Fx x):B6 s f=f+a.length/\(s.drop f).take (B6 s f - f)=a:=by
 have e:B6 s f=f+a.length:=by unfold B6;rw[h,Zq b d]
 refine⟨e, ?_⟩;rw[e,h,Nat.add_sub_cancel_left,List.take_left'];rfl
theorem X3 {s a x:List UInt8} {p:Nat} (h:s.drop p=a++x) (f: ∀c ∈ a,Ck c=true) (k:Fx x) (d:a≠ []) (l:a[0]? =some 48->a.length=1):Cl s p=Ec false (Ff a) p (p+a.length):=by
 obtain⟨c,y,rfl⟩: ∃c y,a=c::y:=by cases a with
  |nil=>exact absurd rfl d
  |cons c y=>exact⟨c,y,rfl⟩
 obtain⟨i,j⟩:=Aen h f k;have g:s[p]? =some c:=B1 h;have m:=Sd.1 (f c (by simp));have b: ¬(s[p]? =some 45):=by
  rw[g];intro e;have:c=45:=Option.some.inj e;subst this;have:(45:UInt8).toNat=45:=rfl;omega
 unfold Cl;rw[if_neg b];unfold Lg;rw[j,i,if_neg (by simp),decide_eq_false b,if_neg];rintro⟨h1,h2⟩;rw[g]at h1;have:=l (by simpa using h1);omega
theorem X2 {s a x:List UInt8} {p:Nat} (h:s.drop p=45::(a++x)) (i: ∀c ∈ a,Ck c=true) (k:Fx x) (d:a≠ []) (l:a[0]? =some 48->a.length=1):Cl s p=Ec true (Ff a) p (p+1+a.length):=by
 have e:s.drop (p+1)=a++x:=Ca (a:= [45]) h;obtain⟨c,y,rfl⟩: ∃c y,a=c::y:=by cases a with
  |nil=>exact absurd rfl d
  |cons c y=>exact⟨c,y,rfl⟩
 obtain⟨f,g⟩:=Aen e i k;have j:s[p+1]? =some c:=B1 e;have b:s[p]? =some 45:=B1 h;unfold Cl;rw[if_pos b];unfold Lg;rw[g,f,if_neg (by simp),decide_eq_true b,if_neg];rintro⟨h2,h3⟩;rw[j]at h2;have:=l (by simpa using h2);omega
theorem Afn (u:Nat):Ff (F3 u)=u:=Agf u
def Ut (u:Nat):List UInt8:=if u=0 then [48]else F3 u
theorem Zn (u:Nat):(∀c ∈ Ut u,Ck c=true)/\Ut u≠ []/\((Ut u)[0]? =some 48->(Ut u).length=1)/\Ff (Ut u)=u:=by
 unfold Ut
 split
 . rename_i h;subst h;exact⟨by decide,by decide,fun _=>rfl,rfl⟩
 . rename_i h;refine⟨fun c a=>Sd.2 (N2 u c a),Aks h,fun e=> ?_,Afn u⟩;obtain⟨c,y,b,a⟩:=S6 h;rw[b]at e;simp only[List.getElem?_cons_zero,Option.some.injEq]at e;exact absurd e a
theorem Af8 (n:Int):Lib.itoa n=if n<0 then 45::Ut n.natAbs else Ut n.toNat:=by
 by_cases h:n<0
 . rw[if_pos h,Lib.itoa,if_pos h,<-Jt _ (by omega)];unfold Ut;rw[if_neg (by omega)]
 . rw[if_neg h,Lib.itoa,if_neg h];unfold Ut;by_cases h0:n=0
   . subst h0;show Lib.decDigits 0=if(0:Nat)=0 then [48]else F3 0;rw[if_pos rfl];exact Lib.decDigits_one (i:=0) (by omega)
   . rw[if_neg (by omega),Jt _ (by omega)]
theorem Aaj {n:Int} (h: -9223372036854775808<=n/\n<=9223372036854775807) {s x:List UInt8} {p:Nat} (a:s.drop p=Lib.itoa n++x) (g:Fx x):Cl s p=.ok n (p+(Lib.itoa n).length):=by
 rw[Af8]at a ⊢
 split at a
 . rename_i f;obtain⟨b,c,d,e⟩:=Zn n.natAbs;rw[X2 a b g c d,e,if_pos f];unfold Ec;rw[if_pos rfl,if_neg (by omega),List.length_cons]
   congr 1
   . omega
   . omega
 . rename_i f;obtain⟨b,c,d,e⟩:=Zn n.toNat;rw[X3 a b g c d,e,if_neg f];unfold Ec;rw[if_neg (by decide),if_neg (by omega)]
   congr 1
   omega
theorem Ud {c:UInt8} (h:Ck c=true\/c=45):D9 c=true/\Ef c=false/\c≠91/\c≠123/\c≠34/\c≠110/\c≠116/\c≠102:=by
 rcases h with h|rfl
 . have a:=Sd.1 h;have ne: ∀k:UInt8,(k.toNat<48\/57<k.toNat)->c≠k:=by
    rintro k b rfl;omega
   refine⟨by unfold D9;rw[h];rfl, ?_,ne _ (by decide),ne _ (by decide),ne _ (by decide),ne _ (by decide),ne _ (by decide),ne _ (by decide)⟩;unfold Ef;simp only[Bool.or_eq_false_iff,beq_eq_false_iff_ne];exact⟨⟨⟨ne _ (by decide),ne _ (by decide)⟩,ne _ (by decide)⟩,ne _ (by decide)⟩
 . decide
theorem Ahb {f:Nat} {s:List UInt8} {p:Nat} {d:Int} (n:d<=64) {c:UInt8} (m:s[p]? =some c) (h:Ck c=true\/c=45):Bb (f+1) s p d=(Cl s p).map Oa:=by
 obtain⟨a,b,e,g,i,j,k,l⟩:=Ud h;rw[En m a n b,if_neg e,if_neg g,if_neg i,if_neg j,if_neg k,if_neg l]
theorem Ajw {n:Int} (h: -9223372036854775808<=n/\n<=9223372036854775807) {d:Int} (k:d<=64):F2 (Lib.itoa n) (Oa n) d:=by
 intro f s p x o g l m;obtain⟨f,rfl⟩: ∃i,f=i+1:=⟨f - 1,by omega⟩;refine⟨_, ?_,rfl⟩;obtain⟨c,y,e⟩: ∃c y,Lib.itoa n=c::y:=by
  cases hi:Lib.itoa n with
  |nil=>exact absurd hi (Aet n)
  |cons c y=>exact⟨c,y,rfl⟩
 have j:s[p]? =some c:=B1 (x:=y++x) (by rw[g,e];rfl);have a:=Acq n c (by rw[e];simp);have b:Ck c=true\/c=45:=by
  rcases a with a|a
  . exact .inr (UInt8.toNat_inj.1 a)
  . exact .inl (Sd.2 a)
 rw[Ahb k j b,Aaj h g l];rfl
theorem Afu: ∀r:Fin 128,(r.val<32\/r.val=34\/r.val=92)->(Ao r.val).getD 0 0=92/\(((Ao r.val).length=2/\(Ao r.val).getD 1 0≠117/\Fj ((Ao r.val).getD 1 0)=some r.val)\/
 ((Ao r.val).length=6/\(Ao r.val).getD 1 0=117/\Jf ((Ao r.val).drop 2) 4 0=some r.val)):=by decide+kernel
theorem Zz: ∀(k:Nat) (l x:List UInt8) (n r:Nat),Jf l k n=some r->Jf (l++x) k n=some r
 |0,l,x,n,r,h=>by cases l<;>(cases x<;>simpa[Jf]using h)
 |k+1, [],x,n,r,h=>by simp[Jf]at h
 |k+1,c::l,x,n,r,h=>by
  rw[List.cons_append];simp only[Jf]at h ⊢
  cases hd:M9 c with
  |none=>rw[hd]at h;cases h
  |some d=>
   rw[hd]at h;exact Zz k l x _ r h
theorem Afv {r:Nat} (j:r<32\/r=34\/r=92) (x:List UInt8):E5 (Ao r++x)=.ok r (Ao r).length/\ ∃y,Ao r=92::y:=by
 obtain⟨h0,g⟩:=Afu ⟨r,by omega⟩ j;simp only at h0 g;obtain⟨a,y,e⟩: ∃a y,Ao r=a::y:=by
  cases hq:Ao r with
  |nil=>rw[hq]at g;simp at g
  |cons a y=>exact⟨a,y,rfl⟩
 have i:a=92:=by rw[e]at h0;exact h0
 subst i;refine⟨?_,y,e⟩;rw[e]at g ⊢;rcases g with⟨hl,h2,h3⟩|⟨hl,h2,h3⟩
 . match y,hl with
   | [c],_=>
     have b:c≠117:=h2;have f:Fj c=some r:=h3;unfold E5 Dd;rw[if_pos (by right;right;simpa using b)];simp only[Qb,List.cons_append,List.nil_append,List.getElem?_cons_succ,List.getElem?_cons_zero];rw[f];rfl
 . match y,hl with
   | [c,d,e1,e2,e3],_=>
     have b:c=117:=h2;subst b;have f:Jf [d,e1,e2,e3] 4 0=some r:=h3;have h:=Zz 4 _ x _ _ f;unfold E5 Dd;rw[if_neg (by simp)];simp only[List.cons_append,List.nil_append,List.drop_succ_cons,List.drop_zero]at h ⊢;rw[h];simp only[Fp];rw[if_pos (by omega)];rfl
theorem Ww: ∀(L:List (Nat×Nat)),(∀x ∈ L,D0 x.2)-> ∀(f:Nat) (s x:List UInt8) (i:Nat) (out:List UInt8),s.drop i=Aj L++34::x->i<=s.length->s.length - i<=f->
 Fg f s i out=.ok (out++L.flatMap fun y=>Lib.encodeRune (y.2:Int)) (i+(Aj L).length+1)
 | [],_,f,s,x,i,out,h,hi,hf=>by
   have v:s.drop i=34::x:=h;have j:=B1 v;have:=B7 j;obtain⟨f,rfl⟩: ∃o,f=o+1:=⟨f - 1,by omega⟩;unfold Fg;rw[j];simp[Aj]
 |a::L,hL,f,s,x,i,out,h,hi,hf=>by
  have p:=hL a (by simp);have q:Aj (a::L)=Ao a.2++Aj L:=by simp[Aj]
  rw[q,List.append_assoc]at h;obtain⟨c,y,m,D⟩:=R7 p;have j:s[i]? =some c:=B1 (x:=y++(Aj L++34::x)) (by rw[h,m];rfl);have C:=B7 j;obtain⟨f,rfl⟩: ∃o,f=o+1:=⟨f - 1,by omega⟩;have u:0<(Ao a.2).length:=by rw[m];simp
  have w:=Ca h;have A:=L1 h hi;have l:=Ww L (fun z F=>hL z (by simp[F])) f s x (i+(Ao a.2).length) (out++Lib.encodeRune (a.2:Int)) w A (by omega);have g:(Rd.ok (out++Lib.encodeRune (a.2:Int)++L.flatMap fun y=>Lib.encodeRune (y.2:Int)) (i+(Ao a.2).length+(Aj L).length+1):Rd (List UInt8))=.ok (out++(a::L).flatMap fun y=>Lib.encodeRune (y.2:Int)) (i+(Aj (a::L)).length+1):=by
   rw[List.flatMap_cons,List.append_assoc,q,List.length_append]
   congr 1
   omega
  rw[<-g,<-l]
  conv=>lhs;unfold Fg
  rw[j];simp only;rw[if_neg D];by_cases E:32<=a.2/\a.2≠34/\a.2≠92
  . have e:Ao a.2=Lib.encodeRune a.2:=by unfold Ao;rw[if_pos E]
    have G:=Je p c (by rw[<-e,m];simp);have n: ¬c.toNat<32:=by omega
    have d:c≠92:=by
     rintro rfl;have:(92:UInt8).toNat=92:=rfl;omega
    have b:Lib.decodeL (s.drop i)=(a.2,(Lib.encodeRune (a.2:Int)).length):=by rw[h,e];exact Ah8 p _
    have k: ¬((Lib.decodeL (s.drop i)).1=65533/\(Lib.decodeL (s.drop i)).2=1):=by
     rw[b];rintro⟨e1,e3⟩;simp only at e1 e3;rw[e1]at e3;have:(Lib.encodeRune ((65533:Nat):Int)).length=3:=by decide+kernel
     omega
    rw[if_neg n,if_neg d,if_neg k,b,h,e];simp only;rw[List.take_left'];rfl
  . obtain⟨B,H,t⟩:=Afv (r:=a.2) (by omega) (Aj L++34::x);have d:c=92:=by
     rw[m]at t;exact(List.cons.inj t).1
    subst d;rw[if_neg (by decide),if_pos rfl,h,B]
theorem Wv {a:ByteArray} (e:A6 a=true) {s x:List UInt8} {p:Nat} (h:s.drop p=B8 a++x):Cs s p=.ok a.data.toList (p+(B8 a).length):=by
 unfold B8 at h;rw[List.append_assoc]at h;have b:s.drop p=34::(Aj (Bw a)++34::x):=h;have c:=B1 b;have f:=B7 c;have d:s.drop (p+1)=Aj (Bw a)++34::x:=Ca (a:= [34]) b;unfold Cs;rw[if_pos c,Ww (Bw a) (Fw _ _ _) _ s x (p+1) [] d (by omega) (by omega)];unfold B8 Bw;rw[T8 a.size a.data.toList 0 (by rw[Qk];exact Nat.le_refl _) e];rw[List.nil_append]
 congr 1
 simp only[List.length_append,List.length_cons,List.length_nil];omega
theorem Xb (a:ByteArray):(⟨a.data.toList.toArray⟩:ByteArray)=a:=by
 apply ByteArray.ext;simp
theorem Ajy {a:ByteArray} (e:A6 a=true) {d:Int} (h:d<=64):F2 (B8 a) (.mk 4 false 0 a [] []) d:=by
 intro f s p x j b k i;obtain⟨f,rfl⟩: ∃c,f=c+1:=⟨f - 1,by omega⟩;have g:s[p]? =some 34:=B1 (x:=Aj (Bw a)++ [34]++x) (by rw[b];rfl);refine⟨_, ?_,rfl⟩;rw[En g (by decide) h (by decide),if_neg (by decide),if_neg (by decide),if_pos rfl,Wv e b];simp only[Rd.map,Abk,Xb]
def Db:List (List UInt8)->List UInt8
 | []=> []
 | [t]=>t
 |t::u::r=>t++44::Db (u::r)
theorem Ti {d:Int} (k:d<=64): ∀(l:List (List UInt8×Val)),l≠ []->(∀y ∈ l,F2 y.1 y.2 (d+1))-> ∀(f:Nat) (s x:List UInt8) (p:Nat) (acc:List Val),p<=s.length->s.drop p=Db (l.map (·.1))++93::x->4*(s.length - p)+2<=f->
 Dk f s p d acc=.ok (R3 (acc++l.map (·.2))) (p+(Db (l.map (·.1))).length+1)
 | [y],_,hl,f,s,x,p,acc,hp,h,hf=>by
   obtain⟨f,rfl⟩: ∃g,f=g+1:=⟨f - 1,by omega⟩;have b:s.drop p=y.1++93::x:=h;obtain⟨q,i,e⟩:=hl y (by simp) f s p (93::x) hp b (Fx.of (by decide)) (by omega);have c:=B1 (Ca b);rw[Dr c (by decide)]at e
   conv=>lhs;unfold Dk
   rw[i];simp only;rw[e,c,if_neg (by decide),if_pos rfl];rfl
 |y::z::r,_,hl,f,s,x,p,acc,hp,h,hf=>by
  obtain⟨f,rfl⟩: ∃g,f=g+1:=⟨f - 1,by omega⟩;have b:s.drop p=y.1++44::(Db ((z::r).map (·.1))++93::x):=by
   rw[h];simp only[List.map_cons,Db,List.append_assoc,List.cons_append]
  obtain⟨q,i,e⟩:=hl y (by simp) f s p _ hp b (Fx.of (by decide)) (by omega);have c:=B1 (Ca b);have n:=B7 c;rw[Dr c (by decide)]at e;have j:s.drop (p+y.1.length+1)=Db ((z::r).map (·.1))++93::x:=Ca (a:= [44]) (Ca b)
  conv=>lhs;unfold Dk
  rw[i];simp only;rw[e,c,if_pos rfl,Ti k (z::r) (by simp) (fun w m=>hl w (by simp[m])) f s x _ (acc++ [y.2]) (by omega) j (by omega)]
  congr 1
  . simp
  . simp only[List.map_cons,Db,List.length_append,List.length_cons];omega
theorem Aiv {y:List UInt8} {r:List (List UInt8)}: ∃z,Db (y::r)=y++z:=by
 cases r with
 |nil=>exact⟨[],by simp[Db]⟩
 |cons u r=>exact⟨44::Db (u::r),rfl⟩
theorem Rh {t:List UInt8} {v:Val} {d:Int} (h:F2 t v d) {s x:List UInt8} {p:Nat} (b:p<=s.length) (e:s.drop p=t++x) (f:Fx x): ∃c,s[Ak s p]? =some c/\D9 c=true:=by
 obtain⟨q,a,_⟩:=h (4*(s.length - p)+1) s p x b e f (Nat.le_refl _);unfold Bb at a
 cases hc:s[Ak s p]? with
 |none=>rw[hc]at a;cases a
 |some c=>
  rw[hc]at a;simp only at a;refine⟨c,rfl, ?_⟩
  cases hb:D9 c with
  |true=>rfl
  |false=>rw[hb,if_pos rfl]at a;cases a
theorem Ago {d:Int} (v:d<=64) {l:List (List UInt8×Val)} (o: ∀y ∈ l,F2 y.1 y.2 (d+1)) {g:List UInt8} (C:Lt g) (q:l≠ []->g= []):
 F2 (91::(g++Db (l.map (·.1))++ [93])) (R3 (l.map (·.2))) d:=by
 intro f s p x F A G E;obtain⟨f,rfl⟩: ∃m,f=m+1:=⟨f - 1,by omega⟩;have u:s[p]? =some 91:=B1 A;have D:=B7 u;obtain⟨f,rfl⟩: ∃m,f=m+1:=⟨f - 1,by omega⟩;have i:s.drop (p+1)=g++(Db (l.map (·.1))++93::x):=by
  refine Ca (a:= [91]) ?_;rw[A];simp
 rw[En u (by decide) v (by decide),if_pos rfl];unfold Hd
 cases l with
 |nil=>
  have B:=Ca i;have k:s[p+1+g.length]? =some 93:=B1 B;rw[Fq C i,Dr k (by decide),if_pos k];refine⟨_,rfl, ?_⟩;simp only[List.map_nil,Db,List.append_nil,List.length_cons,List.length_append,List.length_nil]
  congr 1;omega
 |cons y r=>
  obtain rfl:=q (by simp);rw[List.nil_append]at i;obtain⟨z,H⟩:=Aiv (y:=y.1) (r:=r.map (·.1));have b: ∃c,s[Ak s (p+1)]? =some c/\D9 c=true:=by
   cases r with
   |nil=>
    refine Rh (o y (by simp)) (p:=p+1) (x:=93::x) (by omega) ?_ (Fx.of (by decide));rw[i];rfl
   |cons w r=>
    refine Rh (o y (by simp)) (p:=p+1) (x:=44::(Db ((w::r).map (·.1))++93::x)) (by omega) ?_ (Fx.of (by decide));rw[i];simp only[List.map_cons,Db,List.append_assoc,List.cons_append]
  obtain⟨c,k,t⟩:=b;have j: ¬(s[Ak s (p+1)]? =some 93):=by
   rw[k];intro e;rw[Option.some.inj e]at t;revert t;decide
  rw[if_neg j];have n:=Ti v (y::r) (by simp) o f s x (p+1) [] (by omega) i (by omega);have h:Dk f s (Ak s (p+1)) d []=Dk f s (p+1) d []:=by
   cases f with
   |zero=>unfold Dk;rw[D2]
   |succ f=>unfold Dk;rw[Uk (D2 s (p+1))]
  rw[h,n];refine⟨_,by rw[List.nil_append], ?_⟩;simp only[List.nil_append,List.length_cons,List.length_append,List.length_nil]
  congr 1;omega
structure Mem where
 pre:List UInt8
 mid:List UInt8
 txt:List UInt8
 key:ByteArray
 val:Val
def Mem.text (m:Mem):List UInt8:=m.pre++(B8 m.key++(m.mid++58::m.txt))
def Mem.pair (m:Mem):ByteArray×Val:=(m.key,m.val)
def Mem.good (d:Int) (m:Mem):Prop:=Lt m.pre/\Lt m.mid/\A6 m.key=true/\F2 m.txt m.val d
theorem Aaz (a:ByteArray):B8 a=34::(Aj (Bw a)++ [34]):=rfl
theorem Q9 {d:Int} {m:Mem} (A:m.good (d+1)) {f:Nat} {s x:List UInt8} {p:Nat} {acc:List (ByteArray×Val)} (B:p<=s.length) (h:s.drop p=m.text++x) (F:Fx x) (I:4*(s.length - p)+2<=f):
 (Gf m.key acc=true->Bi f s p d acc=.bad 8 (p+m.pre.length))/\
 (Gf m.key acc=false-> ∃g q,f=g+2/\Ak s q=Ak s (p+m.text.length)/\Bi f s p d acc=(if s[Ak s q]? =some 44 then Bi g s (Ak s q+1) d (acc++ [m.pair])else if s[Ak s q]? =some 125 then .ok (Oc (Gr (acc++ [m.pair]))) (Ak s q+1)else .bad 4 (Ak s q))):=by
 obtain⟨u,v,E,D⟩:=A;unfold Mem.text at h;rw[List.append_assoc,List.append_assoc,List.append_assoc]at h;have c:=Ca h;have G:=L1 h B;have i:=Ca c;have H:=L1 c G;have n:=Ca i;have J:=L1 i H;have w:s.drop (p+m.pre.length+(B8 m.key).length+m.mid.length+1)=m.txt++x:=Ca (a:= [58]) n;have e:s[p+m.pre.length]? =some 34:=B1 (x:=Aj (Bw m.key)++ [34]++(m.mid++([58]++m.txt++x))) (by rw[c];rfl);have b:=B1 n;have o:=B7 b;have k:Ak s p=p+m.pre.length:=by rw[Fq u h,Dr e (by decide)]
 have l:=Wv E c;have r:Ak s (p+m.pre.length+(B8 m.key).length)=p+m.pre.length+(B8 m.key).length+m.mid.length:=by rw[Fq v i,Dr b (by decide)]
 have C:2<=(B8 m.key).length:=by rw[Aaz];simp
 obtain⟨f,rfl⟩: ∃t,f=t+2:=⟨f - 2,by omega⟩;constructor
 . intro j
   conv=>lhs;unfold Bi
   rw[k,l];simp only;rw[Xb,if_pos j]
 . intro j;obtain⟨q,y,z⟩:=D f s _ x (by omega) w F (by omega);refine⟨f,q,rfl, ?_, ?_⟩
   . rw[z];unfold Mem.text;simp only[List.length_append,List.length_cons]
     congr 1;omega
   . conv=>lhs;unfold Bi
     rw[k,l];simp only;rw[Xb,if_neg (by rw[j];decide),r,b,if_pos rfl]
     conv=>lhs;unfold E9
     rw[y];rfl
theorem Pd {d:Int}: ∀(l:List Mem),l≠ []->(∀m ∈ l,m.good (d+1))-> ∀(f:Nat) (s x:List UInt8) (p:Nat) (acc:List (ByteArray×Val)),((acc++l.map Mem.pair).map (·.1)).Nodup->p<=s.length->s.drop p=Db (l.map Mem.text)++125::x->4*(s.length - p)+2<=f->
 Bi f s p d acc=.ok (Oc (Gr (acc++l.map Mem.pair))) (p+(Db (l.map Mem.text)).length+1)
 | [m],_,hl,f,s,x,p,acc,hn,hp,h,hf=>by
   have b:s.drop p=m.text++125::x:=h;have k:Gf m.key acc=false:=by
    cases e:Gf m.key acc with
    |false=>rfl
    |true=>
     rw[List.map_append,List.nodup_append]at hn;exact absurd rfl (hn.2.2 m.key (Tc.1 e) m.key (by simp[Mem.pair]))
   obtain⟨g,q,_,i,j⟩:=(Q9 (hl m (by simp)) (acc:=acc) hp b (Fx.of (by decide)) hf).2 k;have c:=B1 (Ca b);rw[Dr c (by decide)]at i;rw[j,i,c,if_neg (by decide),if_pos rfl];rfl
 |m::z::r,_,hl,f,s,x,p,acc,hn,hp,h,hf=>by
  have b:s.drop p=m.text++44::(Db ((z::r).map Mem.text)++125::x):=by
   rw[h];simp only[List.map_cons,Db,List.append_assoc,List.cons_append]
  have k:Gf m.key acc=false:=by
   cases e:Gf m.key acc with
   |false=>rfl
   |true=>
    rw[List.map_append,List.nodup_append]at hn;exact absurd rfl (hn.2.2 m.key (Tc.1 e) m.key (by simp[Mem.pair]))
  obtain⟨g,q,u,i,j⟩:=(Q9 (hl m (by simp)) (acc:=acc) hp b (Fx.of (by decide)) hf).2 k;have c:=B1 (Ca b);have t:=B7 c;rw[Dr c (by decide)]at i;have n:s.drop (p+m.text.length+1)=Db ((z::r).map Mem.text)++125::x:=Ca (a:= [44]) (Ca b);rw[j,i,c,if_pos rfl,Pd (z::r) (by simp) (fun w o=>hl w (by simp[o])) g s x _ (acc++ [m.pair]) (by simpa using hn) (by omega) n (by omega)]
  congr 1
  . simp
  . simp only[List.map_cons,Db,List.length_append,List.length_cons];omega
theorem Xz {f:Nat} {s:List UInt8} {p:Nat} {d:Int} {acc:List (ByteArray×Val)}:Bi f s (Ak s p) d acc=Bi f s p d acc:=by
 cases f with
 |zero=>unfold Bi;rw[D2]
 |succ f=>unfold Bi;rw[D2]
theorem Aje {d:Int} (b:d<=64) {f:Nat} {s:List UInt8} {p:Nat} (a:s[p]? =some 123) (c: ¬(s[Ak s (p+1)]? =some 125)):Bb (f+2) s p d=Bi f s (p+1) d []:=by
 rw[En a (by decide) b (by decide),if_neg (by decide),if_pos rfl];unfold Lh;rw[if_neg c,Xz]
theorem Wb {d:Int} {m:Mem} (c:m.good d) {s x:List UInt8} {p:Nat} (h:s.drop p=m.text++x):s[Ak s p]? =some 34:=by
 unfold Mem.text at h;rw[List.append_assoc,List.append_assoc]at h;have b:=Ca h;have a:s[p+m.pre.length]? =some 34:=B1 (x:=Aj (Bw m.key)++ [34]++(m.mid++58::m.txt++x)) (by rw[b];rfl);rw[Fq c.1 h,Dr a (by decide),a]
theorem Ajx {d:Int} (k:d<=64) {l:List Mem} (h: ∀m ∈ l,m.good (d+1)) (v:((l.map Mem.pair).map (·.1)).Nodup) {g:List UInt8} (t:Lt g) (i:l≠ []->g= []):
 F2 (123::(g++Db (l.map Mem.text)++ [125])) (Oc (Gr (l.map Mem.pair))) d:=by
 intro f s p x A n B z;have e:s[p]? =some 123:=B1 n;have u:=B7 e;obtain⟨f,rfl⟩: ∃o,f=o+2:=⟨f - 2,by omega⟩;have c:s.drop (p+1)=g++(Db (l.map Mem.text)++125::x):=by
  refine Ca (a:= [123]) ?_;rw[n];simp
 cases l with
 |nil=>
  have q:=Ca c;have j:s[p+1+g.length]? =some 125:=B1 q;rw[En e (by decide) k (by decide),if_neg (by decide),if_pos rfl];unfold Lh;rw[Fq t c,Dr j (by decide),if_pos j];refine⟨_,rfl, ?_⟩;simp only[List.map_nil,Db,List.append_nil,List.length_cons,List.length_append,List.length_nil]
  congr 1;omega
 |cons y r=>
  obtain rfl:=i (by simp);rw[List.nil_append]at c;have b:s[Ak s (p+1)]? =some 34:=by
   cases r with
   |nil=>exact Wb (h y (by simp)) (x:=125::x) (by rw[c];rfl)
   |cons w r=>
    refine Wb (h y (by simp)) (x:=44::(Db ((w::r).map Mem.text)++125::x)) ?_;rw[c];simp only[List.map_cons,Db,List.append_assoc,List.cons_append]
  rw[Aje k e (by rw[b];decide)];rw[Pd (y::r) (by simp) h f s x (p+1) [] (by simpa using v) (by omega) c (by omega)];refine⟨_,by rw[List.nil_append], ?_⟩;simp only[List.nil_append,List.length_cons,List.length_append,List.length_nil]
  congr 1;omega
theorem Aeb (k:Int) (b:Bool) (n:Int) (t:ByteArray) (f i:Option Addr) (c g on oc:Nat) (B:Bool) (w:World) (h:I8 k b n t c on=B):
 Calls Tryz.prog 128 #[.agg #[.int .i64 k,.bool b,.int .i64 n,.string t,.slice f c g,.slice i on oc]] w fun e w'=>e=.returned (.bool B)/\Below w.heap.size w w':=by
 have a:Hid (∀X:Bool,X=I8 k b n t c on->Ending.returned (.bool X)=.returned (.bool B)):=fun X d=>by rw[d,h]
 clear h;go_enter Tryz.func128,Tryz.ntmps128;go_wp2
 all_goals(go_ret;refine⟨a.out _ ?_,Aa _ _⟩;simp_all[I8,Ahu])
theorem Uu (k b:Int) (s c:ByteArray) (d a1 f g i j l m n o p q:Value) (B:Bool) (w:World) (h:(decide (b≠3)&&(decide (k=3)||Op.bytesLess s.toList c.toList))=B):
 Calls Tryz.prog 71 #[.agg #[.int .i64 k,.string s,d,a1,f,g,i,j],.agg #[.int .i64 b,.string c,l,m,n,o,p,q]] w fun e w'=>e=.returned (.bool B)/\Below w.heap.size w w':=by
 have a:Hid (∀X:Bool,X=(decide (b≠3)&&(decide (k=3)||Op.bytesLess s.toList c.toList))->Ending.returned (.bool X)=.returned (.bool B)):=fun X r=>by rw[r,h]
 clear h;go_enter Tryz.func71,Tryz.ntmps71;go_wp2
 all_goals(go_ret;refine⟨a.out _ ?_,(Aa _ _).alloc (by simp) _⟩;first|(simp_all;done)|(simp only[Akm,Akl]))
theorem Ve (k:Int) (s:ByteArray) (c:Int) (b:Bool) (n:Int) (t:ByteArray) (j m:Option Addr) (d l on oc:Nat) (B:Bool) (w:World)
 (h:(if k=1 then false else if k=2 then !I8 c b n t d on else if k=3 then !s.toList.isEmpty|| !I8 c b n t d on else true)=B):
 Calls Tryz.prog 70 #[.agg #[.int .i64 k,.string s,.int .i64 c,.bool b,.int .i64 n,.string t,.slice j d l,.slice m on oc]] w fun e w'=>e=.returned (.bool B)/\Below w.heap.size w w':=by
 obtain⟨Z,g⟩: ∃Z,I8 c b n t d on=Z:=⟨_,rfl⟩;rw[g]at h;have a:Hid (∀X:Bool,X=(if k=1 then false else if k=2 then !Z else if k=3 then !s.toList.isEmpty|| !Z else true)->Ending.returned (.bool X)=.returned (.bool B)):=fun X r=>by rw[r,h]
 have f:=qz (fun W=>Aeb c b n t j m d l on oc Z W g);clear g h;go_enter Tryz.func70,Tryz.ntmps70;go_wp2_with (go_at_call 128;refine(f.out _).mono ?_;rintro e w1 ⟨rfl,i⟩)
 all_goals first
  |(go_ret;refine⟨a.out _ ?_,Aa _ _⟩;(by_cases o:k=1<;>by_cases p:k=2<;>by_cases q:k=3<;>cases Z<;>simp_all))
  |(go_ret;refine⟨a.out _ ?_,(Aa _ _).trans (i.mono (by simp))⟩;(by_cases o:k=1<;>by_cases p:k=2<;>by_cases q:k=3<;>cases Z<;>simp_all))
end Go.Proofs.YtjgfchcldhmjcaaGreatDoor
