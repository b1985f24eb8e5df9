/- Parts: An op read of its object: as the program asks, and as the reference asks. Plain. No condition. -/
import Derived.Test.YtdbejcbbhomdbaaGreatDoorKPt20
import Derived.Test.YtdbejcbbhomdbaaGreatDoorKPt21
set_option maxHeartbeats 20000000
set_option maxRecDepth 100000
namespace Go.Proofs.YtdbejcbbhomdbaaGreatDoor
open Go.RowKit
def Ig (w:World) (g:Nat) (v:Val) (c:List Value) (w':World):Prop:=
 Below w.heap.size w w'/\w'.heap[g]? =some (.cells c.toArray 33 (0,0))/\Ck w'/\Aa w' w'.heap.size v c
theorem Ig.step {w w' w'':World} {g:Nat} {v:Val} {c:List Value} (h:Ig w g v c w') (hb:Below w'.heap.size w' w''):Ig w g v c w'':=by
 obtain⟨h1,h2,h3,h4⟩:=h;exact⟨h1.trans (hb.mono h1.size),(hb.block _ (Array.getElem?_eq_some_iff.1 h2).1).trans h2,h3.below hb,Aa.more hb.size _ _ (h4.below hb)⟩
theorem Ig.start {w:World} {v:Val} {c:List Value} (hT:Ck w) (hV:Aa w w.heap.size v c):Ig w w.heap.size v c (w.alloc (.cells c.toArray 33)):=by
 have hb:Below w.heap.size w (w.alloc (.cells c.toArray 33)):=(Below.refl _ _).alloc (Nat.le_refl _) _;exact⟨hb,heap_alloc_new _ _,hT.below hb,Aa.more hb.size _ _ (hV.below hb)⟩
theorem Ig.cells {w w':World} {g:Nat} {v:Val} {k:Int} {b:Bool} {n:Int} {t:ByteArray} {x y:Value} (h:Ig w g v [.int .i64 k,.bool b,.int .i64 n,.string t,x,y] w'):
 w'.cell? ⟨g,0,none⟩=some (.int .i64 k)/\w'.cell? ⟨g,1,none⟩=some (.bool b)/\w'.cell? ⟨g,2,none⟩=some (.int .i64 n)/\w'.cell? ⟨g,3,none⟩=some (.string t)/\w'.cell? ⟨g,4,none⟩=some x/\w'.cell? ⟨g,5,none⟩=some y:=
 Rg h.2.1
theorem Ig.tabs {w w':World} {g:Nat} {v:Val} {c:List Value} (h:Ig w g v c w'):Ck w':=h.2.2.1
theorem Ig.below {w w':World} {g:Nat} {v:Val} {c:List Value} (h:Ig w g v c w'):Below w.heap.size w w':=h.1
def D8 (v:Val):Int:=if A5 v 1=0 then(if 16<Dd v then 5 else if 1024<(Bx v).length then 6 else 0)else A5 v 1
theorem Wo (v:Val) (cs:List Value) (w:World) (hT:Ck w) (hV:Aa w w.heap.size v cs) (hb:v.bulk<=100000000) (hi:Jc v):
 Calls Tryz.prog 39 #[.agg cs.toArray] w fun e w'=>e=.returned (.int .i64 (D8 v))/\Below w.heap.size w w':=by
 have hV':=hV;obtain⟨k,b,n,t,l,o⟩:=v;simp only[Aa]at hV';obtain⟨la,lc,oa,oc,rfl,_,_⟩:=hV';have H1:=qz (Ig.start hT hV);obtain⟨v,hv⟩: ∃v,Val.mk k b n t l o=v:=⟨_,rfl⟩;rw[hv]at hi hb H1 ⊢;have CM:=fun w' (h:Ig w w.heap.size v (C0 k b n t la l.length lc oa o.length oc) w')=>Mo v _ w' h.tabs h.2.2.2 (by omega);unfold D8;by_cases hm:A5 v 1=0
 . have hok:=Xv v 1 hm hi;have CB:=fun w' (h:Ig w w.heap.size v (C0 k b n t la l.length lc oa o.length oc) w')=>Uf v _ w' h.tabs h.2.2.2 (by omega) hok;have CD:=fun w' (h:Ig w w.heap.size v (C0 k b n t la l.length lc oa o.length oc) w')=>W8 v _ w' h.2.2.2 (by omega);rw[if_pos hm];rw[hm]at CM;generalize (Bx v).length=L at CB ⊢;generalize Dd v=D at CD ⊢;obtain⟨HB,HD,HM⟩:=hid3 CB CD CM;clear CB CM CD hm hi hb hT hV hv hok;by_cases hd:16<D
   . rw[if_pos hd];go_enter Tryz.func39,Tryz.ntmps39;go_wp2_with (fail);(with_reducible refine(HM.out _ H1.out).mono ?_);rintro e w2 ⟨rfl,hb2⟩;have H2:=qz (H1.out.step hb2);obtain⟨d0,d1,d2,d3,d4,d5⟩:=H2.out.cells;clear hb2 H1;go_wp2_with (fail);(with_reducible refine(HD.out _ H2.out).mono ?_);rintro e w3 ⟨rfl,hb3⟩;have H3:=qz (H2.out.step hb3);clear d0 d1 d2 d3 d4 d5 hb3 H2;go_wp2;go_ret;exact⟨rfl,H3.out.below⟩
   . rw[if_neg hd];by_cases hl:1024<L
     all_goals
      (first|rw[if_pos hl]|rw[if_neg hl])
      go_enter Tryz.func39,Tryz.ntmps39;go_wp2_with (fail);(with_reducible refine(HM.out _ H1.out).mono ?_);rintro e w2 ⟨rfl,hb2⟩;have H2:=qz (H1.out.step hb2);obtain⟨d0,d1,d2,d3,d4,d5⟩:=H2.out.cells;clear hb2 H1;go_wp2_with (fail);(with_reducible refine(HD.out _ H2.out).mono ?_);rintro e w3 ⟨rfl,hb3⟩;have H3:=qz (H2.out.step hb3);clear d0 d1 d2 d3 d4 d5 hb3 H2;obtain⟨d0,d1,d2,d3,d4,d5⟩:=H3.out.cells;go_wp2_with (fail);(with_reducible refine(HB.out _ H3.out).mono ?_);rintro e w4 ⟨rfl,hb4⟩;have H4:=qz (H3.out.step hb4);clear d0 d1 d2 d3 d4 d5 hb4 H3;go_wp2;go_ret;exact⟨rfl,H4.out.below⟩
 . rw[if_neg hm];have hmb:(A5 v 1==0)=false:=by simpa using hm
   have hmn:(A5 v 1 != 0)=true:=by simpa using hm
   generalize A5 v 1=m at*
   have HM:=qz CM;clear CM hm hi hb hT hV hv;go_enter Tryz.func39,Tryz.ntmps39;go_wp2_with (fail);(with_reducible refine(HM.out _ H1.out).mono ?_);rintro e w2 ⟨rfl,hb2⟩;have H2:=qz (H1.out.step hb2);clear hb2 H1;go_wp2;go_ret;exact⟨rfl,H2.out.below⟩
theorem T1 (v:Val) (cs:List Value) (w:World) (hT:Ck w) (hV:Aa w w.heap.size v cs) (hb:v.bulk<=100000000) (hi:Jc v):
 Calls Tryz.prog 42 #[.agg cs.toArray] w fun e w'=>e=.returned (.int .i64 (D8 v))/\Below w.heap.size w w':=by
 have hV':=hV;obtain⟨k,b,n,t,l,o⟩:=v;simp only[Aa]at hV';obtain⟨la,lc,oa,oc,rfl,_,_⟩:=hV';have H1:=qz (Ig.start hT hV);obtain⟨v,hv⟩: ∃v,Val.mk k b n t l o=v:=⟨_,rfl⟩;rw[hv]at hi hb H1 ⊢;have CM:=fun w' (h:Ig w w.heap.size v (C0 k b n t la l.length lc oa o.length oc) w')=>Oz v _ w' h.2.2.2 (by omega);unfold D8;by_cases hm:A5 v 1=0
 . have CB:=fun w' (h:Ig w w.heap.size v (C0 k b n t la l.length lc oa o.length oc) w')=>Ny v _ w' 1 h.2.2.2 (by omega) hm hi;have CD:=fun w' (h:Ig w w.heap.size v (C0 k b n t la l.length lc oa o.length oc) w')=>Vq v _ w' h.2.2.2 (by omega);obtain⟨S,hS⟩: ∃S:ByteArray,(⟨(Bx v).toArray⟩:ByteArray)=S:=⟨_,rfl⟩;have hL:(Bx v).length=S.size:=by rw[<-hS,Ou]
   rw[if_pos hm,hL];rw[hm]at CM;rw[hS]at CB;generalize Dd v=D at CD ⊢;obtain⟨HB,HD,HM⟩:=hid3 CB CD CM;clear CB CM CD hm hi hb hT hV hv hS hL;by_cases hd:16<D
   . rw[if_pos hd];go_enter Tryz.func42,Tryz.ntmps42;go_wp2_with (fail);(with_reducible refine(HM.out _ H1.out).mono ?_);rintro e w2 ⟨rfl,hb2⟩;have H2:=qz (H1.out.step hb2);obtain⟨d0,d1,d2,d3,d4,d5⟩:=H2.out.cells;clear hb2 H1;go_wp2_with (fail);(with_reducible refine(HD.out _ H2.out).mono ?_);rintro e w3 ⟨rfl,hb3⟩;have H3:=qz (H2.out.step hb3);clear d0 d1 d2 d3 d4 d5 hb3 H2;go_wp2;go_ret;exact⟨rfl,H3.out.below⟩
   . rw[if_neg hd];by_cases hl:1024<S.size
     all_goals
      (first|rw[if_pos hl]|rw[if_neg hl])
      go_enter Tryz.func42,Tryz.ntmps42;go_wp2_with (fail);(with_reducible refine(HM.out _ H1.out).mono ?_);rintro e w2 ⟨rfl,hb2⟩;have H2:=qz (H1.out.step hb2);obtain⟨d0,d1,d2,d3,d4,d5⟩:=H2.out.cells;clear hb2 H1;go_wp2_with (fail);(with_reducible refine(HD.out _ H2.out).mono ?_);rintro e w3 ⟨rfl,hb3⟩;have H3:=qz (H2.out.step hb3);clear d0 d1 d2 d3 d4 d5 hb3 H2;obtain⟨d0,d1,d2,d3,d4,d5⟩:=H3.out.cells;go_wp2_with (fail);(with_reducible refine(HB.out _ H3.out).mono ?_);rintro e w4 ⟨rfl,hb4⟩;have H4:=qz (H3.out.step hb4);clear d0 d1 d2 d3 d4 d5 hb4 H3;go_wp2;go_ret;exact⟨rfl,H4.out.below⟩
 . rw[if_neg hm];have hmb:(A5 v 1==0)=false:=by simpa using hm
   have hmn:(A5 v 1 != 0)=true:=by simpa using hm
   generalize A5 v 1=m at*
   have HM:=qz CM;clear CM hm hi hb hT hV hv;go_enter Tryz.func42,Tryz.ntmps42;go_wp2_with (fail);(with_reducible refine(HM.out _ H1.out).mono ?_);rintro e w2 ⟨rfl,hb2⟩;have H2:=qz (H1.out.step hb2);clear hb2 H1;go_wp2;go_ret;exact⟨rfl,H2.out.below⟩
structure POp where
 k:Int
 key:ByteArray
 v:Val
def dQ (p:POp):D:=.agg [.leaf (.int .i64 p.k),.leaf (.string p.key),dV p.v]
theorem Hy (p:POp):(dQ p).cells=8:=by simp only[dQ,D.cells,G3,C6]
def Db (l:List POp):List D:=l.map dQ
theorem Mr (l:List POp): ∀d ∈ Db l,d.cells=8:=by
 intro d hd;obtain⟨v,_,rfl⟩:=List.mem_map.1 hd;exact Hy v
theorem Ds (l:List POp):(Db l).length=l.length:=List.length_map ..
def Cd:List POp->Nat
 | []=>0
 |p::r=>2+p.key.size+p.v.bulk+Cd r
theorem Fa {l:List POp} {p:POp} (h:p ∈ l):2+p.key.size+p.v.bulk<=Cd l:=by
 induction l with
 |nil=>cases h
 |cons x r ih=>
  simp only[Cd];rcases List.mem_cons.1 h with rfl|h
  . omega
  . have:=ih h;omega
theorem Ep (l:List POp):8*l.length<=Cd l:=by
 induction l with
 |nil=>simp[Cd]
 |cons x r ih=>simp only[Cd,List.length_cons];have:=x.v.bulk_pos;omega
def Xi (l:List POp):Prop:= ∀p ∈ l,Jc p.v
def L1 (k:ByteArray):Bool:= !k.toList.isEmpty&&(decide (k.size<=64)&&Aw k)
def L2 (k:ByteArray):Int:=if k.toList.isEmpty then 8 else if 64<k.size then 6 else if Aw k then 0 else 3
theorem Kc (k:ByteArray):L2 k=0 ↔ L1 k=true:=by
 unfold L2 L1
 cases k.toList.isEmpty<;>by_cases h:64<k.size<;>cases Aw k<;>simp[h]<;>omega
def Oa:Val->Bool
 | .mk k b n t l o=>Hg k b n t l.length o.length
def Dj (p:POp):Bool:=if p.k=1 then false else if p.k=2 then !Oa p.v else if p.k=3 then !p.key.toList.isEmpty|| !Oa p.v else true
def E1 (q p:POp):Bool:=decide (p.k≠3)&&(decide (q.k=3)||Op.bytesLess q.key.toList p.key.toList)
def A4:Option POp->List POp->Int
 |_, []=>0
 |prev,p::r=>
  if Dj p||prev.any (fun q=> !E1 q p)then 2
  else if p.k=3 then A4 (some p) r
  else if L1 p.key=false then 8
  else if p.k=2 then A4 (some p) r
  else if D8 p.v=0 then A4 (some p) r else D8 p.v
inductive Mut where
 |mk (k:Int) (key dst:ByteArray) (n:Int) (had:Bool) (was:Val) (has:Bool) (v:Val) (l:List Mut)
theorem Mut.ind {p:Mut->Prop} (h: ∀k key dst n had was has v l,(∀m ∈ l,p m)->p (.mk k key dst n had was has v l)): ∀m,p m:=by
 intro m;refine Mut.rec (motive_1:=p) (motive_2:=fun l=> ∀m ∈ l,p m) ?_ ?_ ?_ m
 . intro k key dst n had was has v l hl;exact h _ _ _ _ _ _ _ _ _ hl
 . intro m hm
   cases hm
 . intro m r hm hr x hx;rcases List.mem_cons.1 hx with rfl|hx
   . exact hm
   . exact hr x hx
mutual
def dM:Mut->D
 | .mk k key dst n had was has v l=> .agg [.leaf (.int .i64 k),.leaf (.string key),.leaf (.string dst),.leaf (.int .i64 n),.leaf (.bool had),dV was,.leaf (.bool has),dV v,.row 19 (dMs l)]
def dMs:List Mut->List D
 | []=> []
 |m::r=>dM m::dMs r
end
mutual
def Afx:Mut->Nat
 | .mk _ key dst _ _ was _ v l=>8+key.size+dst.size+was.bulk+v.bulk+Abf l
def Abf:List Mut->Nat
 | []=>0
 |m::r=>Afx m+Abf r
end
mutual
def inM:Mut->Prop
 | .mk _ _ _ n _ was _ v l=>(-9223372036854775808<=n/\n<=9223372036854775807)/\Jc was/\Jc v/\Af2 l
def Af2:List Mut->Prop
 | []=>True
 |m::r=>inM m/\Af2 r
end
mutual
def Agm:Mut->Nat
 | .mk _ _ _ _ _ _ _ _ l=>1+Ac8 l
def Ac8:List Mut->Nat
 | []=>0
 |m::r=>Agm m+Ac8 r
end
def Afv (k:Int) (dst:ByteArray) (n:Int) (had wasZ has valZ:Bool) (ln:Nat):Bool:=
 decide (1<=k)&&decide (k<=7)&&(decide (k=6)||dst.toList.isEmpty)&&(decide (k=3)||decide (n=0))&&(decide (k=4)||decide (k=7)|| !had)&&(decide (k=4)|| !has)&&(had||wasZ)&&(decide (k=1)||decide (k=5)||(decide (k=4)&&has)||valZ)&&(decide (k=7)||decide (ln=0))
def Ac6 (s:ByteArray):Bool:=decide (s.size<=64)&&Aw s
def Afh (k:Int) (key dst:ByteArray) (had:Bool):Bool:=if k=6 then Ac6 key&&Ac6 dst else if k=7/\key.toList.isEmpty=true then !had else L1 key
mutual
def Age:Mut->Int->Int
 | .mk k key dst n had was has v l,d=>
   if Afv k dst n had (Oa was) has (Oa v) l.length=false then 9 else if 6<d then 5 else if Afh k key dst had=false then 8
   else if had=true/\D8 was≠0 then D8 was else if(has||decide (k=1)||decide (k=5))=true/\D8 v≠0 then D8 v else Aeq l (d+1)
def Aeq:List Mut->Int->Int
 | [],_=>0
 |m::r,d=>if Age m d=0 then Aeq r d else Age m d
end
structure Num where
 id:Int
 m:Mut
abbrev Le:ByteArray:=⟨#[]⟩
abbrev Ao:ByteArray:=⟨#[107,101,121]⟩
abbrev Bh:ByteArray:=⟨#[111,112]⟩
abbrev Bc:ByteArray:=⟨#[118,97,108,117,101]⟩
abbrev D6:ByteArray:=⟨#[112,117,116]⟩
abbrev Ef:ByteArray:=⟨#[100,101,108]⟩
abbrev B3:ByteArray:=⟨#[99,108,101,97,114]⟩
def tv (s:ByteArray):Val:=.mk 4 false 0 s [] []
def iv (n:Int):Val:=.mk 3 false n Le [] []
def lv (l:List Val):Val:=.mk 5 false 0 Le l []
def ov (o:List (ByteArray×Val)):Val:=.mk 6 false 0 Le [] o
def G5 (p:POp):Val:=ov (if p.k=1 then [(Ao,tv p.key),(Bh,tv D6),(Bc,p.v)]else if p.k=2 then [(Ao,tv p.key),(Bh,tv Ef)]else [(Bh,tv B3)])
def Dt (l:List POp):Val:=lv (l.map G5)
theorem Px:Aw Le=true:=by decide
theorem Afp (s:ByteArray):E2 4 false 0 s 0 0=false:=by simp[E2]
theorem Afn (n:Nat):E2 5 false 0 Le n 0=false:=by simp[E2,Lib.toList_data]
theorem Afo (n:Nat):E2 6 false 0 Le 0 n=false:=by simp[E2,Lib.toList_data]
theorem Xs {k:Int} {b:Bool} {n:Int} {t:ByteArray} {l:List Val} {o:List (ByteArray×Val)} {d:Int} (h1:E2 k b n t l.length o.length=false) (h2:d<=64) (h3:Aw t=true) (h4:C8 l (d+1)=0) (h5:C5 o none (d+1)=0):A5 (.mk k b n t l o) d=0:=by
 simp only[A5];rw[if_neg (by rw[h1];simp),if_neg (by omega),if_pos h3,if_pos h4];exact h5
theorem Ps {s:ByteArray} {d:Int} (h:Aw s=true) (hd:d<=64):A5 (tv s) d=0:=Xs (Afp s) hd h (by simp[C8]) (by simp[C5])
theorem Afk {l:List Val} {d:Int} (hd:d<=64) (h:C8 l (d+1)=0):A5 (lv l) d=0:=Xs (Afn _) hd Px h (by simp[C5])
theorem Afl {o:List (ByteArray×Val)} {d:Int} (hd:d<=64) (h:C5 o none (d+1)=0):A5 (ov o) d=0:=Xs (Afo _) hd Px (by simp[C8]) h
theorem Gj {key:ByteArray} {v:Val} {r:List (ByteArray×Val)} {d:Int} (hk:Aw key=true) (hv:A5 v d=0) {last:Option ByteArray} (hl: ∀q,last=some q->Yz key q=false) (hr:C5 r (some key) d=0):C5 ((key,v)::r) last d=0:=by
 have h1:M0 (key,v) last d=0:=by
  simp only[M0];rw[if_pos hk]
  cases last with
  |none=>exact hv
  |some q=>
   simp only;rw[if_neg (by rw[hl q rfl];simp)];exact hv
 simp only[C5];rw[if_pos h1];exact hr
def okQ (p:POp):Prop:=(p.k=1/\L1 p.key=true/\D8 p.v=0)\/(p.k=2/\L1 p.key=true)\/p.k=3
theorem Fe: ∀{l:List POp} {prev:Option POp},A4 prev l=0-> ∀p ∈ l,okQ p
 |p::r,prev,h,x,hx=>by
  simp only[A4]at h;by_cases h1:(Dj p||prev.any fun q=> !E1 q p)=true
  . rw[if_pos h1]at h;cases h
  rw[if_neg h1]at h;by_cases h3:p.k=3
  . rw[if_pos h3]at h;rcases List.mem_cons.1 hx with rfl|hx
    . exact .inr (.inr h3)
    . exact Fe h x hx
  rw[if_neg h3]at h;by_cases hk:L1 p.key=false
  . rw[if_pos hk]at h;cases h
  rw[if_neg hk]at h;have hk':L1 p.key=true:=by simpa using hk
  by_cases h2:p.k=2
  . rw[if_pos h2]at h;rcases List.mem_cons.1 hx with rfl|hx
    . exact .inr (.inl ⟨h2,hk'⟩)
    . exact Fe h x hx
  rw[if_neg h2]at h;by_cases hf:D8 p.v=0
  . rw[if_pos hf]at h;rcases List.mem_cons.1 hx with rfl|hx
    . refine .inl ⟨?_,hk',hf⟩;have h1':Dj x=false:=by
       cases e:Dj x with
       |false=>rfl
       |true=>rw[e]at h1;simp at h1
      unfold Dj at h1';by_cases h11:x.k=1
      . exact h11
      . rw[if_neg h11,if_neg h2,if_neg h3]at h1';cases h1'
    . exact Fe h x hx
  . rw[if_neg hf]at h;exact absurd h hf
theorem Pn {k:ByteArray} (h:L1 k=true):Aw k=true:=by
 unfold L1 at h;simp only[Bool.and_eq_true]at h;exact h.2.2
theorem Xc {v:Val} (h:D8 v=0):A5 v 1=0/\Dd v<=16/\(Bx v).length<=1024:=by
 unfold D8 at h;by_cases h1:A5 v 1=0
 . rw[if_pos h1]at h;by_cases h2:16<Dd v
   . rw[if_pos h2]at h;cases h
   rw[if_neg h2]at h;by_cases h3:1024<(Bx v).length
   . rw[if_pos h3]at h;cases h
   exact⟨h1,by omega,by omega⟩
 . rw[if_neg h1]at h;exact absurd h h1
theorem Aco {p:POp} {d:Int} (h:okQ p) (hd:d<=40):A5 (G5 p) d=0:=by
 have v1:Aw Ao=true:=by decide
 have v2:Aw Bh=true:=by decide
 have v3:Aw Bc=true:=by decide
 have w1:Aw D6=true:=by decide
 have w2:Aw Ef=true:=by decide
 have w3:Aw B3=true:=by decide
 have l1:Yz Bh Ao=false:=by decide+kernel
 have l2:Yz Bc Bh=false:=by decide+kernel
 unfold G5;refine Afl (by omega) ?_;rcases h with⟨h,hk,hf⟩|⟨h,hk⟩|h
 . rw[if_pos h];obtain⟨f1,f2,_⟩:=Xc hf;exact Gj v1 (Ps (Pn hk) (by omega)) (fun _ e=>by cases e) (Gj v2 (Ps w1 (by omega)) (fun q e=>by cases e;exact l1) (Gj v3 (Vb p.v _ 1 f1 (by omega)) (fun q e=>by cases e;exact l2) (by simp[C5])))
 . rw[if_neg (by omega),if_pos h];exact Gj v1 (Ps (Pn hk) (by omega)) (fun _ e=>by cases e) (Gj v2 (Ps w2 (by omega)) (fun q e=>by cases e;exact l1) (by simp[C5]))
 . rw[if_neg (by omega),if_neg (by omega)];exact Gj v2 (Ps w3 (by omega)) (fun _ e=>by cases e) (by simp[C5])
theorem Acn {l:List Val} {d:Int} (h: ∀v ∈ l,A5 v d=0):C8 l d=0:=by
 induction l with
 |nil=>simp[C8]
 |cons v r ih=>
  simp only[C8];rw[if_pos (h v (by simp))];exact ih fun x hx=>h x (by simp[hx])
theorem Ru {l:List POp} {d:Int} (h: ∀p ∈ l,okQ p) (hd:d<=39):A5 (Dt l) d=0:=by
 refine Afk (by omega) (Acn fun v hv=> ?_);obtain⟨p,hp,rfl⟩:=List.mem_map.1 hv;exact Aco (h p hp) (by omega)
theorem Adx {p:POp} (h:Jc p.v):Jc (G5 p):=by
 unfold G5 ov;simp only[Jc];refine⟨by omega,by simp[Tw], ?_⟩;have ht: ∀s,Jc (tv s):=fun s=>by simp only[tv,Jc,Tw,U0];exact⟨by omega,trivial,trivial⟩
 by_cases h1:p.k=1
 . rw[if_pos h1];exact⟨ht p.key,ht D6,h,trivial⟩
 . rw[if_neg h1];by_cases h2:p.k=2
   . rw[if_pos h2];exact⟨ht p.key,ht Ef,trivial⟩
   . rw[if_neg h2];exact⟨ht B3,trivial⟩
theorem U1 {l:List POp} (h:Xi l):Jc (Dt l):=by
 unfold Dt lv;simp only[Jc];refine⟨by omega, ?_,by simp[U0]⟩
 induction l with
 |nil=>simp[Tw]
 |cons p r ih=>
  simp only[List.map_cons,Tw];exact⟨Adx (h p (by simp)),ih fun x hx=>h x (by simp[hx])⟩
theorem Zj (p:POp):(G5 p).bulk<=60+p.key.size+p.v.bulk:=by
 have e1:(⟨#[]⟩:ByteArray).size=0:=rfl;have e2:Ao.size=3:=rfl;have e3:Bh.size=2:=rfl;have e4:Bc.size=5:=rfl;have e5:D6.size=3:=rfl;have e6:Ef.size=3:=rfl;have e7:B3.size=5:=rfl;unfold G5 ov
 split
 . simp only[Val.bulk,A6,Ag,Ez,tv,e1,e2,e3,e4,e5];omega
 . split
   . simp only[Val.bulk,A6,Ag,Ez,tv,e1,e2,e3,e6];omega
   . simp only[Val.bulk,A6,Ag,Ez,tv,e1,e3,e7];omega
theorem O6 (l:List POp):(Dt l).bulk<=6+60*l.length+Cd l:=by
 have e1:(⟨#[]⟩:ByteArray).size=0:=rfl;have h:A6 (l.map G5)<=60*l.length+Cd l:=by
  induction l with
  |nil=>simp[A6]
  |cons p r ih=>
   have:=Zj p;simp only[List.map_cons,A6,Cd,List.length_cons];omega
 unfold Dt lv;simp only[Val.bulk,Ag,e1];omega
abbrev Af6:ByteArray:=⟨#[97,114,103,115]⟩
abbrev Af8:ByteArray:=⟨#[110,97,109,101]⟩
abbrev kBy:ByteArray:=⟨#[98,121]⟩
abbrev kIs:ByteArray:=⟨#[105,115]⟩
abbrev Ag1:ByteArray:=⟨#[119,97,115]⟩
abbrev Af7:ByteArray:=⟨#[102,114,111,109]⟩
abbrev kTo:ByteArray:=⟨#[116,111]⟩
abbrev kDo:ByteArray:=⟨#[100,111]⟩
abbrev kIf:ByteArray:=⟨#[105,102]⟩
abbrev Ag8:ByteArray:=⟨#[112,117,116]⟩
abbrev Ag6:ByteArray:=⟨#[100,101,108]⟩
abbrev Ag7:ByteArray:=⟨#[105,110,99]⟩
abbrev Ag5:ByteArray:=⟨#[99,97,115]⟩
abbrev Ag4:ByteArray:=⟨#[97,112,112,101,110,100]⟩
abbrev Agf:ByteArray:=⟨#[109,111,118,101]⟩
abbrev Ag9:ByteArray:=⟨#[115,101,113]⟩
def Agg (k:Int):ByteArray:=if k=1 then Ag8 else if k=2 then Ag6 else if k=3 then Ag7 else if k=4 then Ag5 else if k=5 then Ag4 else if k=6 then Agf else Ag9
def Ab3 (key:ByteArray) (had:Bool) (was:Val):List (ByteArray×Val):=(Ao,tv key)::(if had then [(Ag1,was)]else [])
mutual
def Ag3:Mut->Val
 | .mk k key dst n had was has v l=>ov [(Af6,ov (if k=1\/k=5 then [(Ao,tv key),(Bc,v)]else if k=2 then [(Ao,tv key)]else if k=3 then [(kBy,iv n),(Ao,tv key)]
    else if k=4 then(if has then [(kIs,v)]else [])++Ab3 key had was
    else if k=6 then [(Af7,tv key),(kTo,tv dst)]
    else(kDo,lv (Aer l))::(if key.toList.isEmpty then []else [(kIf,ov (Ab3 key had was))]))),(Af8,tv (Agg k))]
def Aer:List Mut->List Val
 | []=> []
 |m::r=>Ag3 m::Aer r
end
theorem X4 (s:ByteArray) (w:World) (hs:s.size<=1000000000):Calls Tryz.prog 41 #[.string s] w fun e w'=>e=.returned (.int .i64 (L2 s))/\w=w':=by
 obtain⟨B,hB⟩: ∃B,Aw s=B:=⟨_,rfl⟩;have HC:=qz (fun W=>B1 hB W hs);have e0:s.toList.isEmpty=decide (s.size=0):=by
  rw[Lib.toList_data,Lib.size_eq];cases s.data.toList<;>simp
 have hE:L2 s=if s.size=0 then 8 else if 64<s.size then 6 else if B then 0 else 3:=by
  unfold L2;rw[e0,hB];simp
 clear hB e0;by_cases h0:s.size=0
 . rw[if_pos h0]at hE;have t0:((s.size:Int)==0)=true:=by rw[beq_iff_eq];omega
   have HE:=qz hE;clear hE;clear h0;go_enter Tryz.func41,Tryz.ntmps41;go_wp2;go_ret;exact⟨by rw[HE.out];rfl,rfl⟩
 rw[if_neg h0]at hE;have t0:((s.size:Int)==0)=false:=by rw[beq_eq_false_iff_ne];omega
 by_cases h1:64<s.size
 . rw[if_pos h1]at hE;have t1:(64:Int)<(s.size:Int):=by omega
   have HE:=qz hE;clear hE;clear h0 h1;go_enter Tryz.func41,Tryz.ntmps41;go_wp2;go_ret;exact⟨by rw[HE.out];rfl,rfl⟩
 rw[if_neg h1]at hE;have t1:(s.size:Int)<=64:=by omega
 have HE:=qz hE;clear hE;clear h0 h1
 cases B with
 |true=>
  go_enter Tryz.func41,Tryz.ntmps41;go_wp2_with (go_at_call 76;(with_reducible refine(HC.out _).mono ?_);rintro e w2 ⟨rfl,rfl⟩);go_ret;exact⟨by rw[HE.out];rfl,rfl⟩
 |false=>
  go_enter Tryz.func41,Tryz.ntmps41;go_wp2_with (go_at_call 76;(with_reducible refine(HC.out _).mono ?_);rintro e w2 ⟨rfl,rfl⟩);go_ret;exact⟨by rw[HE.out];rfl,rfl⟩
abbrev J3:Val:=.mk 0 false 0 ⟨#[]⟩ [] []
theorem Aax (v:Val):Oa v=true ↔ v=J3:=by
 obtain⟨k,b,n,t,l,o⟩:=v;simp only[Oa,Hg,Bool.and_eq_true,decide_eq_true_eq,Bool.not_eq_true',List.length_eq_zero_iff,List.isEmpty_iff,Val.mk.injEq];constructor
 . rintro⟨⟨⟨⟨⟨rfl,rfl⟩,rfl⟩,ht⟩,rfl⟩,rfl⟩;refine⟨rfl,rfl,rfl, ?_,rfl,rfl⟩;rw[Lib.toList_data]at ht;exact ByteArray.ext (Array.ext' ht)
 . rintro⟨rfl,rfl,rfl,rfl,rfl,rfl⟩;exact⟨⟨⟨⟨⟨rfl,rfl⟩,rfl⟩,by rw[Lib.toList_data]⟩,rfl⟩,rfl⟩
theorem Gl (w:World) (B:Nat):Aa w B J3 [.int .i64 0,.bool false,.int .i64 0,.string ⟨#[]⟩,.slice none 0 0,.slice none 0 0]:=by
 simp only[Aa];exact⟨none,0,none,0,rfl,by simp,by simp⟩
theorem Vz (v:Val) (cs:List Value) (w:World) (hV:Aa w w.heap.size v cs) (hb:v.bulk<=100000000) {B:Bool} (hB:Oa v=B):
 Calls Tryz.prog 17 #[.agg cs.toArray,.agg #[.int .i64 0,.bool false,.int .i64 0,.string ⟨#[]⟩,.slice none 0 0,.slice none 0 0]] w fun e w'=>e=.returned (.bool B)/\Below w.heap.size w w':=by
 refine(Kh v J3 cs _ w hV (Gl _ _) hb (by simp[Val.bulk,A6,Ag,ByteArray.size])).mono ?_;rintro e w' ⟨X,rfl,hX,hb'⟩;refine⟨?_,hb'⟩;rw[<-Aax,hB]at hX
 cases X<;>cases B<;>simp_all
theorem Afi (x y:List UInt8):(Op.bytesLess x y||x==y)= !Op.bytesLess y x:=by
 rcases Sm x y with h|h|h
 . have:Op.bytesLess y x=false:=by
    cases h2:Op.bytesLess y x with
    |false=>rfl
    |true=>have:=Jj h h2;rw[D1]at this;cases this
   simp[h,this]
 . subst h;simp[D1]
 . have h1:Op.bytesLess x y=false:=by
    cases h2:Op.bytesLess x y with
    |false=>rfl
    |true=>have:=Jj h h2;rw[D1]at this;cases this
   have h3:(x==y)=false:=by
    rw[beq_eq_false_iff_ne];rintro rfl;rw[D1]at h;cases h
   simp[h,h1,h3]
mutual
def Dv:Val->Val->Bool
 | .mk k b n t l o,.mk k' b' n' t' l' o'=>decide (k=k')&&(if k=2 then b==b' else if k=3 then decide (n=n')else if k=4 then decide (t=t')else if k=5 then M8 l l' else if k=6 then M9 o o' else true)
def M8:List Val->List Val->Bool
 | [], []=>true
 | [],_::_=>false
 |_::_, []=>false
 |x::r,y::s=>Dv x y&&M8 r s
def M9:List (ByteArray×Val)->List (ByteArray×Val)->Bool
 | [], []=>true
 | [],_::_=>false
 |_::_, []=>false
 |p::r,q::s=>Q5 p q&&M9 r s
def Q5:ByteArray×Val->ByteArray×Val->Bool
 |(k,x),(k',y)=>decide (k=k')&&Dv x y
end
theorem Rz: ∀{l:List Val},(∀v ∈ l,Dv v v=true)->M8 l l=true
 | [],_=>by simp[M8]
 |v::r,h=>by simp only[M8,h v (by simp),Rz (l:=r) fun x hx=>h x (by simp[hx]),Bool.and_self]
theorem R3: ∀{o:List (ByteArray×Val)},(∀m ∈ o,Dv m.2 m.2=true)->M9 o o=true
 | [],_=>by simp[M9]
 |(k,v)::r,h=>by
  have h1:Dv v v=true:=h (k,v) (by simp);simp only[M9,Q5,h1,R3 (o:=r) fun x hx=>h x (by simp[hx]),Bool.and_self,decide_true]
theorem Aao: ∀v,Dv v v=true:=by
 refine Val.ind ?_;intro k b n t l o hl ho;simp only[Dv,Rz hl,R3 ho,decide_true,Bool.true_and,beq_self_eq_true]
 split
 . rfl
 split
 . rfl
 split
 . rfl
 split
 . rfl
 split<;>rfl
mutual
def Ahc:Mut->Mut->Bool
 | .mk k key dst n had was has v l,.mk k' key' dst' n' had' was' has' v' l'=>decide (k=k')&&decide (key=key')&&decide (dst=dst')&&decide (n=n')&&(had==had')&&(has==has')&&Dv was was'&&Dv v v'&&Aes l l'
def Aes:List Mut->List Mut->Bool
 | [], []=>true
 | [],_::_=>false
 |_::_, []=>false
 |x::r,y::s=>Ahc x y&&Aes r s
end
end Go.Proofs.YtdbejcbbhomdbaaGreatDoor
namespace Go.Proofs.YtdbejcbbhomdbaaGreatDoor
abbrev Yn:=ByteArray×Option Val×Option Val
def Cv:List Bz->List Bz->List Yn
 | [], []=> []
 | [],(k,v)::s=>(k,none,some v)::Cv [] s
 |(k,v)::r, []=>(k,some v,none)::Cv r []
 |(a,x)::r,(b,y)::s=>
  if Cg a b then(a,some x,none)::Cv r ((b,y)::s)else if Cg b a then(b,none,some y)::Cv ((a,x)::r) s
  else if Dv x y then Cv r s else(a,some x,some y)::Cv r s
termination_by a b=>a.length+b.length
theorem Uh (A B:List Bz): ∀X:List Bz,Cv (X++A) (X++B)=Cv A B
 | []=>rfl
 |(k,v)::r=>by
  rw[List.cons_append,List.cons_append,Cv,if_neg (by rw[Cr];simp),if_neg (by rw[Cr];simp),if_pos (Aao v),Uh A B r]
theorem O9 {k:ByteArray} {v:Val} {r:List Bz}: ∀{s:List Bz},(∀e ∈ s,Cg k e.1=true)->Cv ((k,v)::r) s=(k,some v,none)::Cv r s
 | [],_=>by rw[Cv]
 |(b,y)::s,h=>by
  have h1:Cg k b=true:=h (b,y) (by simp);rw[Cv,if_pos h1]
theorem O8 {k:ByteArray} {v:Val} {s:List Bz}: ∀{r:List Bz},(∀e ∈ r,Cg k e.1=true)->Cv r ((k,v)::s)=(k,none,some v)::Cv r s
 | [],_=>by rw[Cv]
 |(a,x)::r,h=>by
  have h1:Cg k a=true:=h (a,x) (by simp);rw[Cv,if_neg (by rw[L4 h1];simp),if_pos h1]
theorem W4 {k:ByteArray} {x y:Val} {r s:List Bz}:Cv ((k,x)::r) ((k,y)::s)=if Dv x y then Cv r s else(k,some x,some y)::Cv r s:=by
 rw[Cv,if_neg (by rw[Cr];simp),if_neg (by rw[Cr];simp)]
end Go.Proofs.YtdbejcbbhomdbaaGreatDoor
namespace Go.Proofs.YtdbejcbbhomdbaaGreatDoor
open Go.RowKit
theorem Mh: ∀{l l':List Val},M8 l l'=true ↔ l.length=l'.length/\ ∀(j:Nat) x y,l[j]? =some x->l'[j]? =some y->Dv x y=true
 | [], []=>by simp[M8]
 | [],_::_=>by simp[M8]
 |_::_, []=>by simp[M8]
 |a::r,b::s=>by
  simp only[M8,Bool.and_eq_true,Mh (l:=r) (l':=s),List.length_cons,Nat.add_right_cancel_iff];constructor
  . rintro⟨h1,h2,h3⟩;refine⟨h2,fun j x y e1 e2=> ?_⟩
    cases j with
    |zero=>simp only[List.getElem?_cons_zero,Option.some.injEq]at e1 e2;rw[<-e1,<-e2];exact h1
    |succ j=>simp only[List.getElem?_cons_succ]at e1 e2;exact h3 j x y e1 e2
  . rintro⟨h2,h3⟩;exact⟨h3 0 a b rfl rfl,h2,fun j x y e1 e2=>h3 (j+1) x y (by simpa using e1) (by simpa using e2)⟩
theorem Mi: ∀{l l':List (ByteArray×Val)},M9 l l'=true ↔ l.length=l'.length/\ ∀(j:Nat) x y,l[j]? =some x->l'[j]? =some y->Q5 x y=true
 | [], []=>by simp[M9]
 | [],_::_=>by simp[M9]
 |_::_, []=>by simp[M9]
 |a::r,b::s=>by
  simp only[M9,Bool.and_eq_true,Mi (l:=r) (l':=s),List.length_cons,Nat.add_right_cancel_iff];constructor
  . rintro⟨h1,h2,h3⟩;refine⟨h2,fun j x y e1 e2=> ?_⟩
    cases j with
    |zero=>simp only[List.getElem?_cons_zero,Option.some.injEq]at e1 e2;rw[<-e1,<-e2];exact h1
    |succ j=>simp only[List.getElem?_cons_succ]at e1 e2;exact h3 j x y e1 e2
  . rintro⟨h2,h3⟩;exact⟨h3 0 a b rfl rfl,h2,fun j x y e1 e2=>h3 (j+1) x y (by simpa using e1) (by simpa using e2)⟩
theorem Qh (a b:Int):Lib.compareInt a b=Ma a b:=by
 unfold Lib.compareInt Ma;rfl
theorem Gv: ∀a b:List UInt8,Lib.compareBytes a b=0 ↔ a=b
 | [], []=>by simp[Lib.compareBytes]
 | [],_::_=>by simp[Lib.compareBytes]
 |_::_, []=>by simp[Lib.compareBytes]
 |a::x,b::y=>by
  have e1:Lib.compareBytes (a::x) (b::y)=if a<b then -1 else if b<a then 1 else Lib.compareBytes x y:=rfl;rw[e1]
  split
  . rename_i h;simp only[List.cons.injEq];exact⟨fun e=>absurd e (by decide),fun e=>by rw[e.1]at h;exact absurd h (UInt8.lt_irrefl _)⟩
  . split
    . rename_i h;simp only[List.cons.injEq];exact⟨fun e=>absurd e (by decide),fun e=>by rw[e.1]at h;exact absurd h (UInt8.lt_irrefl _)⟩
    . rename_i h1 h2;rw[Gv x y,List.cons.injEq];have:a=b:=UInt8.le_antisymm (UInt8.not_lt.1 h2) (UInt8.not_lt.1 h1);simp[this]
theorem Qd (a b:ByteArray) (w:World):Calls Tryz.prog 154 #[.string a,.string b] w fun e w'=> ∃c:Int,e=.returned (.int .i64 c)/\(c=0 ↔ a=b)/\w'=w:=by
 refine(Tryz.strings_Compare a b w).mono ?_;rintro e w' ⟨rfl,rfl⟩;refine⟨_,rfl, ?_,rfl⟩;rw[Gv];exact⟨fun h=>ByteArray.ext (Array.ext' h),fun h=>by rw[h]⟩
theorem Pl (a b:Int) (w:World):Calls Tryz.prog 189 #[.int .i64 a,.int .i64 b] w fun e w'=>e=.returned (.int .i64 (Ma a b))/\w'=w:=by
 refine(Tryz.cmp_Compare_int a b w).mono ?_;rintro e w' ⟨rfl,rfl⟩;rw[Qh];exact⟨rfl,rfl⟩
theorem Pv (a:Int) (w:World):Calls Tryz.prog 186 #[.int .i64 a] w fun e w'=>e=.returned (.bool false)/\w'=w:=by
 go_enter Tryz.func186,Tryz.ntmps186;go_wp2;go_ret;exact⟨rfl,rfl⟩
theorem Pu (a:Int) (w:World):Calls Tryz.prog 187 #[.int .i64 a] w fun e w'=>e=.returned (.bool false)/\w'=w:=by
 go_enter Tryz.func187,Tryz.ntmps187;go_wp2;go_ret;exact⟨rfl,rfl⟩
theorem Xl (a b:Int) (w:World):Calls Tryz.prog 151 #[.int .i64 a,.int .i64 b] w fun e w'=>e=.returned (.int .i64 (Ma a b))/\w'=w:=by
 have HA:=qz (Pv a w);have HB:=qz (Pv b w);unfold Ma;by_cases h1:a<b
 . rw[if_pos h1];go_enter Tryz.func151,Tryz.ntmps151;go_wp2_with (go_at_call 186;first|(with_reducible refine(HA.out).mono ?_;rintro e w' ⟨rfl,rfl⟩)|(with_reducible refine(HB.out).mono ?_;rintro e w' ⟨rfl,rfl⟩));go_ret;exact⟨rfl,rfl⟩
 rw[if_neg h1];by_cases h2:b<a
 . rw[if_pos h2];go_enter Tryz.func151,Tryz.ntmps151;go_wp2_with (go_at_call 186;first|(with_reducible refine(HA.out).mono ?_;rintro e w' ⟨rfl,rfl⟩)|(with_reducible refine(HB.out).mono ?_;rintro e w' ⟨rfl,rfl⟩));go_ret;exact⟨rfl,rfl⟩
 . rw[if_neg h2];go_enter Tryz.func151,Tryz.ntmps151;go_wp2_with (go_at_call 186;first|(with_reducible refine(HA.out).mono ?_;rintro e w' ⟨rfl,rfl⟩)|(with_reducible refine(HB.out).mono ?_;rintro e w' ⟨rfl,rfl⟩));go_ret;exact⟨rfl,rfl⟩
theorem Pp (a b:Int) (w:World):Calls Tryz.prog 153 #[.int .i64 a,.int .i64 b] w fun e w'=>e=.returned (.int .i64 (Ma a b))/\w'=w:=by
 have HA:=qz (Pu a w);have HB:=qz (Pu b w);unfold Ma;by_cases h1:a<b
 . rw[if_pos h1];go_enter Tryz.func153,Tryz.ntmps153;go_wp2_with (go_at_call 187;first|(with_reducible refine(HA.out).mono ?_;rintro e w' ⟨rfl,rfl⟩)|(with_reducible refine(HB.out).mono ?_;rintro e w' ⟨rfl,rfl⟩));go_ret;exact⟨rfl,rfl⟩
 rw[if_neg h1];by_cases h2:b<a
 . rw[if_pos h2];go_enter Tryz.func153,Tryz.ntmps153;go_wp2_with (go_at_call 187;first|(with_reducible refine(HA.out).mono ?_;rintro e w' ⟨rfl,rfl⟩)|(with_reducible refine(HB.out).mono ?_;rintro e w' ⟨rfl,rfl⟩));go_ret;exact⟨rfl,rfl⟩
 . rw[if_neg h2];go_enter Tryz.func153,Tryz.ntmps153;go_wp2_with (go_at_call 187;first|(with_reducible refine(HA.out).mono ?_;rintro e w' ⟨rfl,rfl⟩)|(with_reducible refine(HB.out).mono ?_;rintro e w' ⟨rfl,rfl⟩));go_ret;exact⟨rfl,rfl⟩
theorem X1 (b:Bool) (w:World):Calls Tryz.prog 152 #[.bool b] w fun e w'=>e=.returned (.int .i64 (if b then 1 else 0))/\w'=w:=by
 cases b
 all_goals
  go_enter Tryz.func152,Tryz.ntmps152;go_wp2;go_ret;exact⟨rfl,rfl⟩
theorem eb:Ms.size=0:=rfl
theorem le_of_lt {a b:ByteArray} (h:Cg b a=true):Yz a b=false:=by
 unfold Yz;have h1:=L4 h;unfold Cg at h1;rw[h1,Bool.false_or]
 cases e:(a.toList==b.toList)with
 |false=>rfl
 |true=>
  have:a=b:=Fg (by simpa using e);subst this;rw[Cr]at h;cases h
def Nf (x:List UInt8):Prop:= ∀c y,x=c::y->Yw c=false
def Wn (g:List UInt8):Prop:= ∀c ∈ g,Oq c=true
theorem Ut {s a x:List UInt8} {p:Nat} (h:s.drop p=a++x):s.drop (p+a.length)=x:=by
 rw[<-List.drop_drop,h,List.drop_left]
theorem Abs {s a x:List UInt8} {p:Nat} (h:s.drop p=a++x) (hp:p<=s.length):p+a.length<=s.length:=by
 have:=congrArg List.length h;rw[List.length_drop,List.length_append]at this;omega
theorem Ab2 {s x:List UInt8} {p:Nat} {c:UInt8} (h:s.drop p=c::x):s[p]? =some c:=by
 have:=List.getElem?_drop (xs:=s) (i:=p) (j:=0);rw[h]at this;simpa using this.symm
theorem Nt: ∀{g:List UInt8},Wn g-> ∀{s x:List UInt8} {p:Nat},s.drop p=g++x->Cs s p=Cs s (p+g.length)
 | [],_,_,_,_,_=>rfl
 |c::g,hg,s,x,p,h=>by
  rw[Aab (Ab2 h) (hg c (by simp))];have h2:s.drop (p+1)=g++x:=Ut (a:= [c]) (x:=g++x) (by simpa using h);rw[Nt (fun c hc=>hg c (by simp[hc])) h2,List.length_cons]
  congr 1;omega
theorem Yc {f:Nat} {s:List UInt8} {p p':Nat} {d:Int} (h:Cs s p=Cs s p'):Ln f s p d=Ln f s p' d:=by
 cases f with
 |zero=>unfold Ln;rw[h]
 |succ f=>unfold Ln;rw[h]
def Ws (t:List UInt8) (v:Val) (d:Int):Prop:= ∀f s p x,p<=s.length->s.drop p=t++x->Nf x->4*(s.length - p)+1<=f-> ∃q,Ln f s p d=.ok v q/\Cs s q=Cs s (p+t.length)
theorem Nf.blanks {g x:List UInt8} (hg:Wn g) (hx:Nf x):Nf (g++x):=by
 intro c y h
 cases g with
 |nil=>exact hx c y h
 |cons a g=>
  have:a=c:=(List.cons.inj h).1;subst this;have:=hg a (by simp);unfold Oq at this;simp only[Bool.or_eq_true,beq_iff_eq]at this;rcases this with((rfl|rfl)|rfl)|rfl<;>decide
theorem Nf.of {c:UInt8} {y:List UInt8} (h:Yw c=false):Nf (c::y):=by
 intro c' y' e;rw[<-(List.cons.inj e).1];exact h
theorem Nf.nil:Nf []:=by intro c y e;cases e
theorem Ws.ahead {t:List UInt8} {v:Val} {d:Int} (h:Ws t v d) {g:List UInt8} (hg:Wn g):Ws (g++t) v d:=by
 intro f s p x hp hs hx hf;rw[List.append_assoc]at hs;have h1:=Nt hg hs;have h2:=Ut hs;have h3:=Abs hs hp;obtain⟨q,h4,h5⟩:=h f s (p+g.length) x h3 h2 hx (by omega);refine⟨q,by rw[Yc h1];exact h4, ?_⟩;rw[h5,List.length_append]
 congr 1;omega
structure Mem where
 pre:List UInt8
 mid:List UInt8
 txt:List UInt8
 key:ByteArray
 val:Val
theorem Mz: ∀{l:List (ByteArray×Val)} {last:Option ByteArray} {d:Int},C5 l last d=0->Bq l/\ ∀q,last=some q-> ∀m ∈ l,Cg q m.1=true
 | [],_,_,_=>⟨List.Pairwise.nil,fun q _ m hm=>by cases hm⟩
 |(k,v)::r,last,d,h=>by
  simp only[C5]at h;by_cases hP:M0 (k,v) last d=0
  . rw[if_pos hP]at h;obtain⟨h1,h2⟩:=Mz h;refine⟨List.pairwise_cons.2 ⟨fun m hm=>h2 k rfl m hm,h1⟩,fun q hq m hm=> ?_⟩;subst hq;have hqk:Cg q k=true:=by
     simp only[M0]at hP
     split at hP
     . split at hP
       . cases hP
       . rename_i hle;unfold Yz at hle;simp only[Bool.or_eq_true,not_or]at hle;rcases Ix q k with t|t|t
         . exact t
         . subst t;exact absurd (by simp) hle.2
         . exact absurd t hle.1
     . cases hP
    rcases List.mem_cons.1 hm with rfl|hm
    . exact hqk
    . exact Cc hqk (h2 k rfl m hm)
  . rw[if_neg hP]at h;exact absurd h hP
end Go.Proofs.YtdbejcbbhomdbaaGreatDoor
namespace Go.Proofs.YtdbejcbbhomdbaaGreatDoor
def Bf:Val->Int
 | .mk k _ _ _ _ _=>k
def Bg:Val->List (ByteArray×Val)
 | .mk _ _ _ _ _ o=>o
def Cy:Val->ByteArray
 | .mk _ _ _ t _ _=>t
def Pr:Val->List Val
 | .mk _ _ _ _ l _=>l
abbrev Lf:Val:=.mk 0 false 0 Le [] []
abbrev Cm:POp:=⟨0,Le,Lf⟩
def Cf (v:Val):Int×POp:=
 if Bf v≠6 then(9,Cm)else
 match Ap Bh (Bg v)with
 |none=>(10,Cm)
 |some nm=>
  if Bf nm≠4 then(9,Cm)
  else if Cy nm=B3 then(if(Bg v).length=1 then(0,⟨3,Le,Lf⟩)else(10,Cm))
  else if Cy nm=D6 then
   (match Bg v with
   | [(a,x),(b,_),(c,y)]=>if a=Ao/\b=Bh/\c=Bc then(if Bf x=4 then(0,⟨1,Cy x,y⟩)else(9,Cm))else(10,Cm)
   |_=>(10,Cm))
  else if Cy nm=Ef then
   (match Bg v with
   | [(a,x),(b,_)]=>if a=Ao/\b=Bh then(if Bf x=4 then(0,⟨2,Cy x,Lf⟩)else(9,Cm))else(10,Cm)
   |_=>(10,Cm))
  else(12,Cm)
def Ah:List Val->Int×List POp
 | []=>(0, [])
 |v::r=>if(Cf v).1≠0 then((Cf v).1, [])else if(Ah r).1≠0 then((Ah r).1, [])else(0,(Cf v).2::(Ah r).2)
def C9 (v:Val):Int×List POp:=
 if A5 v 1≠0 then(A5 v 1, [])else if Bf v≠5 then(9, [])else if(Ah (Pr v)).1≠0 then((Ah (Pr v)).1, [])
 else if A4 none (Ah (Pr v)).2=0 then(0,(Ah (Pr v)).2)else(A4 none (Ah (Pr v)).2, [])
def E3:Yn->POp
 |(k,_,some v)=>⟨1,k,v⟩
 |(k,_,none)=>⟨2,k,J3⟩
end Go.Proofs.YtdbejcbbhomdbaaGreatDoor
namespace Go.Proofs.YtdbejcbbhomdbaaGreatDoor
open Go.RowKit
theorem Yk (k:Int) (b:Bool) (n:Int) (t:ByteArray) (la oa:Option Addr) (ln lc on oc:Nat) (B:Bool) (w:World) (h:Hg k b n t ln on=B):
 Calls Tryz.prog 72 #[.agg #[.int .i64 k,.bool b,.int .i64 n,.string t,.slice la ln lc,.slice oa on oc]] w fun e w'=>e=.returned (.bool B)/\Below w.heap.size w w':=by
 have Fin:Hid (∀X:Bool,X=Hg k b n t ln on->Ending.returned (.bool X)=.returned (.bool B)):=fun X hX=>by rw[hX,h]
 clear h;go_enter Tryz.func72,Tryz.ntmps72;go_wp2
 all_goals(go_ret;refine⟨Fin.out _ ?_,Ab _ _⟩;simp_all[Hg,Abe])
theorem Qi (k k':Int) (s s':ByteArray) (a0 a1 a2 a3 a4 a5 b0 b1 b2 b3 b4 b5:Value) (B:Bool) (w:World) (h:(decide (k'≠3)&&(decide (k=3)||Op.bytesLess s.toList s'.toList))=B):
 Calls Tryz.prog 37 #[.agg #[.int .i64 k,.string s,a0,a1,a2,a3,a4,a5],.agg #[.int .i64 k',.string s',b0,b1,b2,b3,b4,b5]] w fun e w'=>e=.returned (.bool B)/\Below w.heap.size w w':=by
 have Fin:Hid (∀X:Bool,X=(decide (k'≠3)&&(decide (k=3)||Op.bytesLess s.toList s'.toList))->Ending.returned (.bool X)=.returned (.bool B)):=fun X hX=>by rw[hX,h]
 clear h;go_enter Tryz.func37,Tryz.ntmps37;go_wp2
 all_goals(go_ret;refine⟨Fin.out _ ?_,(Ab _ _).alloc (by simp) _⟩;first|(simp_all;done)|(simp only[Adm,Adl]))
theorem Q6 (k:Int) (s:ByteArray) (k':Int) (b:Bool) (n:Int) (t:ByteArray) (la oa:Option Addr) (ln lc on oc:Nat) (B:Bool) (w:World)
 (h:(if k=1 then false else if k=2 then !Hg k' b n t ln on else if k=3 then !s.toList.isEmpty|| !Hg k' b n t ln on else true)=B):
 Calls Tryz.prog 36 #[.agg #[.int .i64 k,.string s,.int .i64 k',.bool b,.int .i64 n,.string t,.slice la ln lc,.slice oa on oc]] w fun e w'=>e=.returned (.bool B)/\Below w.heap.size w w':=by
 obtain⟨Z,hZ⟩: ∃Z,Hg k' b n t ln on=Z:=⟨_,rfl⟩;rw[hZ]at h;have Fin:Hid (∀X:Bool,X=(if k=1 then false else if k=2 then !Z else if k=3 then !s.toList.isEmpty|| !Z else true)->Ending.returned (.bool X)=.returned (.bool B)):=fun X hX=>by rw[hX,h]
 have Hcz:=qz (fun W=>Yk k' b n t la oa ln lc on oc Z W hZ);clear hZ h;go_enter Tryz.func36,Tryz.ntmps36;go_wp2_with (go_at_call 72;refine(Hcz.out _).mono ?_;rintro e w1 ⟨rfl,hb1⟩)
 all_goals first
  |(go_ret;refine⟨Fin.out _ ?_,Ab _ _⟩;(by_cases e1:k=1<;>by_cases e2:k=2<;>by_cases e3:k=3<;>cases Z<;>simp_all))
  |(go_ret;refine⟨Fin.out _ ?_,(Ab _ _).trans (hb1.mono (by simp))⟩;(by_cases e1:k=1<;>by_cases e2:k=2<;>by_cases e3:k=3<;>cases Z<;>simp_all))
theorem Eg (s:ByteArray) (w:World):Calls Tryz.prog 78 #[.string s] w fun e w'=>e=.returned (.agg #[.int .i64 4,.bool false,.int .i64 0,.string s,.slice none 0 0,.slice none 0 0])/\Below w.heap.size w w':=by
 go_enter Tryz.func78,Tryz.ntmps78;go_wp2;exact bodyPost_ret (v:=.agg #[.int .i64 4,.bool false,.int .i64 0,.string s,.slice none 0 0,.slice none 0 0]) (by simp[results,Tryz.results78,go_sem]) rfl ⟨rfl,(Below.refl _ _).alloc (Nat.le_refl _) _⟩
end Go.Proofs.YtdbejcbbhomdbaaGreatDoor
namespace Go.Proofs.YtdbejcbbhomdbaaGreatDoor
theorem D2 {k:ByteArray} {o:List (ByteArray×Val)}:(Ap k o).isSome=true ↔ k ∈ o.map (·.1):=by
 cases h:Ap k o with
 |none=>simp only[Option.isSome_none,Bool.false_eq_true,false_iff];exact La.1 h
 |some v=>
  simp only[Option.isSome_some,true_iff];exact List.mem_map.2 ⟨_,Fc h,rfl⟩
theorem Ae4:O1 [Ao,Bh,Bc]:=by
 have h1:Cg Ao Bh=true:=by decide+kernel
 have h2:Cg Ao Bc=true:=by decide+kernel
 have h3:Cg Bh Bc=true:=by decide+kernel
 simp only[O1,List.pairwise_cons,List.mem_cons,List.not_mem_nil,or_false,forall_eq_or_imp,forall_eq,List.Pairwise.nil,and_true,false_imp_iff,implies_true];exact⟨⟨h1,h2⟩,h3⟩
theorem Ae3:O1 [Ao,Bh]:=by
 have h1:Cg Ao Bh=true:=by decide+kernel
 simp only[O1,List.pairwise_cons,List.mem_cons,List.not_mem_nil,or_false,forall_eq,List.Pairwise.nil,and_true,false_imp_iff,implies_true];exact h1
theorem Aep {o:List (ByteArray×Val)} (h:o.map (·.1)= [Ao,Bh,Bc]): ∃x z y,o= [(Ao,x),(Bh,z),(Bc,y)]:=by
 match o,h with
 | [(a,x),(b,z),(c,y)],h=>
   simp only[List.map_cons,List.map_nil,List.cons.injEq,and_true]at h;obtain⟨rfl,rfl,rfl⟩:=h;exact⟨x,z,y,rfl⟩
theorem Aeo {o:List (ByteArray×Val)} (h:o.map (·.1)= [Ao,Bh]): ∃x z,o= [(Ao,x),(Bh,z)]:=by
 match o,h with
 | [(a,x),(b,z)],h=>
   simp only[List.map_cons,List.map_nil,List.cons.injEq,and_true]at h;obtain⟨rfl,rfl⟩:=h;exact⟨x,z,rfl⟩
theorem Af4 {o:List (ByteArray×Val)} (ho:Bq o):(3=o.length/\(Ap Ao o).isSome=true/\(Ap Bh o).isSome=true/\(Ap Bc o).isSome=true) ↔ o.map (·.1)= [Ao,Bh,Bc]:=by
 rw[<-My ho Ae4,D2,D2,D2];simp
theorem Af3 {o:List (ByteArray×Val)} (ho:Bq o):(2=o.length/\(Ap Ao o).isSome=true/\(Ap Bh o).isSome=true) ↔ o.map (·.1)= [Ao,Bh]:=by
 rw[<-My ho Ae3,D2,D2];simp
def Gy (s:ByteArray):Option (Int×Bool×Bool):=if s=D6 then some (1,true,true)else if s=Ef then some (2,true,false)else if s=B3 then some (3,false,false)else none
def C4 (v:Val):Int×POp:=
 if Bf v≠6 then(9,Cm)else
 match Ap Bh (Bg v)with
 |none=>(10,Cm)
 |some nm=>if Bf nm≠4 then(9,Cm)else
  match Gy (Cy nm)with
  |none=>(12,Cm)
  |some (k,fk,fv)=>
   if(Ap Ao (Bg v)).isSome≠fk\/(Ap Bc (Bg v)).isSome≠fv\/(Bg v).length≠1+(if fk then 1 else 0)+(if fv then 1 else 0)then(10,Cm)
   else if fk=true/\Bf ((Ap Ao (Bg v)).getD Lf)≠4 then(9,Cm)
   else(0,⟨k,Cy ((Ap Ao (Bg v)).getD Lf),(Ap Bc (Bg v)).getD Lf⟩)
theorem Aah:(D6=B3)=False:=eq_false (by decide)
theorem Zp:(Ef=B3)=False:=eq_false (by decide)
theorem Rw {v:Val} {d:Int} (hm:A5 v d=0):C4 v=Cf v:=by
 have ha:Bq (Bg v):=by
  obtain⟨k,b,n,t,l,o⟩:=v;exact(Mz (El hm).2.2.2.2).1
 unfold C4 Cf;by_cases hk:Bf v≠6
 . rw[if_pos hk,if_pos hk]
 rw[if_neg hk,if_neg hk];generalize Bg v=o at ha
 cases hnm:Ap Bh o with
 |none=>rfl
 |some nm=>
  simp only;by_cases h4:Bf nm≠4
  . rw[if_pos h4,if_pos h4]
  rw[if_neg h4,if_neg h4];have hop:(Ap Bh o).isSome=true:=by rw[hnm];rfl
  unfold Gy;by_cases hp:Cy nm=D6
  . simp only[hp,if_true,Aah,if_false];by_cases hj:o.map (·.1)= [Ao,Bh,Bc]
    . obtain⟨x,z,y,rfl⟩:=Aep hj;have e1:Ap Ao [(Ao,x),(Bh,z),(Bc,y)]=some x:=by kernel_rfl
      have e2:Ap Bc [(Ao,x),(Bh,z),(Bc,y)]=some y:=by kernel_rfl
      rw[e1,e2];simp
    . have hc:(Ap Ao o).isSome≠true\/(Ap Bc o).isSome≠true\/o.length≠1+1+1:=by
       refine Classical.byContradiction fun hn=>hj ((Af4 ha).1 ?_);simp only[not_or,Classical.not_not]at hn;exact⟨by omega,hn.1,hop,hn.2.1⟩
      rw[if_pos hc]
      split
      . rename_i a x b z c y;rw[if_neg];rintro⟨rfl,rfl,rfl⟩;exact hj rfl
      . rfl
  . simp only[hp,if_false];by_cases hd:Cy nm=Ef
    . simp only[hd,if_true,Zp,if_false];by_cases hj:o.map (·.1)= [Ao,Bh]
      . obtain⟨x,z,rfl⟩:=Aeo hj;have e1:Ap Ao [(Ao,x),(Bh,z)]=some x:=by kernel_rfl
        have e2:Ap Bc [(Ao,x),(Bh,z)]=none:=by kernel_rfl
        rw[e1,e2];simp
      . have hc:(Ap Ao o).isSome≠true\/(Ap Bc o).isSome≠false\/o.length≠1+1+0:=by
         refine Classical.byContradiction fun hn=>hj ((Af3 ha).1 ?_);simp only[not_or,Classical.not_not]at hn;exact⟨by omega,hn.1,hop⟩
        rw[if_pos (by simpa using hc)]
        split
        . rename_i a x b z;rw[if_neg];rintro⟨rfl,rfl⟩;exact hj rfl
        . rfl
    . simp only[hd,if_false];by_cases hcl:Cy nm=B3
      . simp only[hcl,if_true];by_cases hl:o.length=1
        . rw[if_pos hl];obtain⟨q,rfl⟩:=List.length_eq_one_iff.1 hl;have hq:=List.mem_singleton.1 (Fc hnm);subst hq;have e1:Ap Ao [(Bh,nm)]=none:=by kernel_rfl
          have e2:Ap Bc [(Bh,nm)]=none:=by kernel_rfl
          rw[e1,e2];simp[Lf,Cy]
        . rw[if_neg hl,if_pos (Or.inr (Or.inr (by simpa using hl)))]
      . simp only[hcl,if_false]
end Go.Proofs.YtdbejcbbhomdbaaGreatDoor
