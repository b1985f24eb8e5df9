/- Parts: Loads and stores of structs of many cells at once. Plain. No condition. -/
import Derived.Deep.MidRow
import Derived.Test.YtobmaegpfbheoaaGreatDoorKPf15
import Derived.Test.YtobmaegpfbheoaaGreatDoorKPf16
set_option maxHeartbeats 20000000
set_option maxRecDepth 100000
namespace Go.Proofs.YtobmaegpfbheoaaGreatDoor
open Go.RowKit
def Gr (w:World) (g:Nat) (v:Val) (c:List Value) (w':World):Prop:=
 Below w.heap.size w w'/\w'.heap[g]? =some (.cells c.toArray 42 (0,0))/\B7 w'/\Ab w' w'.heap.size v c
theorem Gr.step {w w' w'':World} {g:Nat} {v:Val} {c:List Value} (h:Gr w g v c w') (hb:Below w'.heap.size w' w''):Gr w g v c w'':=by
 obtain⟨h1,h2,h3,h4⟩:=h;exact⟨h1.trans (hb.mono h1.size),(hb.block _ (Array.getElem?_eq_some_iff.1 h2).1).trans h2,h3.below hb,Ab.more hb.size _ _ (h4.below hb)⟩
theorem Gr.start {w:World} {v:Val} {c:List Value} (hT:B7 w) (hV:Ab w w.heap.size v c):Gr w w.heap.size v c (w.alloc (.cells c.toArray 42)):=by
 have hb:Below w.heap.size w (w.alloc (.cells c.toArray 42)):=(Below.refl _ _).alloc (Nat.le_refl _) _;exact⟨hb,heap_alloc_new _ _,hT.below hb,Ab.more hb.size _ _ (hV.below hb)⟩
theorem Gr.cells {w w':World} {g:Nat} {v:Val} {k:Int} {b:Bool} {n:Int} {t:ByteArray} {x y:Value} (h:Gr w g v [.int .i64 k,.bool b,.int .i64 n,.string t,x,y] w'):
 w'.cell? ⟨g,0,none⟩=some (.int .i64 k)/\w'.cell? ⟨g,1,none⟩=some (.bool b)/\w'.cell? ⟨g,2,none⟩=some (.int .i64 n)/\w'.cell? ⟨g,3,none⟩=some (.string t)/\w'.cell? ⟨g,4,none⟩=some x/\w'.cell? ⟨g,5,none⟩=some y:=
 Pt h.2.1
theorem Gr.tabs {w w':World} {g:Nat} {v:Val} {c:List Value} (h:Gr w g v c w'):B7 w':=h.2.2.1
theorem Gr.below {w w':World} {g:Nat} {v:Val} {c:List Value} (h:Gr w g v c w'):Below w.heap.size w w':=h.1
def C3 (v:Val):Int:=if A9 v 1=0 then(if 16<Da v then 5 else if 1024<(Bd v).length then 6 else 0)else A9 v 1
theorem Na (v:Val) (cs:List Value) (w:World) (hT:B7 w) (hV:Ab w w.heap.size v cs) (hb:v.bulk<=100000000) (hi:Jg v):
 Calls Tryz.prog 119 #[.agg cs.toArray] w fun e w'=>e=.returned (.int .i64 (C3 v))/\Below w.heap.size w w':=by
 have hV':=hV;obtain⟨k,b,n,t,l,o⟩:=v;simp only[Ab]at hV';obtain⟨la,lc,oa,oc,rfl,_,_⟩:=hV';have H1:=qz (Gr.start hT hV);obtain⟨v,hv⟩: ∃v,Val.mk k b n t l o=v:=⟨_,rfl⟩;rw[hv]at hi hb H1 ⊢;have CM:=fun w' (h:Gr w w.heap.size v (Df k b n t la l.length lc oa o.length oc) w')=>Pq v _ w' h.tabs h.2.2.2 (by omega);unfold C3;by_cases hm:A9 v 1=0
 . have hok:=Oc v 1 hm hi;have CB:=fun w' (h:Gr w w.heap.size v (Df k b n t la l.length lc oa o.length oc) w')=>Sc v _ w' h.tabs h.2.2.2 (by omega) hok;have CD:=fun w' (h:Gr w w.heap.size v (Df k b n t la l.length lc oa o.length oc) w')=>Vd v _ w' h.2.2.2 (by omega);rw[if_pos hm];rw[hm]at CM;generalize (Bd v).length=L at CB ⊢;generalize Da v=D at CD ⊢;obtain⟨HB,HD,HM⟩:=hid3 CB CD CM;clear CB CM CD hm hi hb hT hV hv hok;by_cases hd:16<D
   . rw[if_pos hd];go_enter Tryz.func119,Tryz.ntmps119;go_wp2_with (fail);(with_reducible refine(HM.out _ H1.out).mono ?_);rintro e w2 ⟨rfl,hb2⟩;have H2:=qz (H1.out.step hb2);obtain⟨d0,d1,d2,d3,d4,d5⟩:=H2.out.cells;clear hb2 H1;go_wp2_with (fail);(with_reducible refine(HD.out _ H2.out).mono ?_);rintro e w3 ⟨rfl,hb3⟩;have H3:=qz (H2.out.step hb3);clear d0 d1 d2 d3 d4 d5 hb3 H2;go_wp2;go_ret;exact⟨rfl,H3.out.below⟩
   . rw[if_neg hd];by_cases hl:1024<L
     all_goals
      (first|rw[if_pos hl]|rw[if_neg hl])
      go_enter Tryz.func119,Tryz.ntmps119;go_wp2_with (fail);(with_reducible refine(HM.out _ H1.out).mono ?_);rintro e w2 ⟨rfl,hb2⟩;have H2:=qz (H1.out.step hb2);obtain⟨d0,d1,d2,d3,d4,d5⟩:=H2.out.cells;clear hb2 H1;go_wp2_with (fail);(with_reducible refine(HD.out _ H2.out).mono ?_);rintro e w3 ⟨rfl,hb3⟩;have H3:=qz (H2.out.step hb3);clear d0 d1 d2 d3 d4 d5 hb3 H2;obtain⟨d0,d1,d2,d3,d4,d5⟩:=H3.out.cells;go_wp2_with (fail);(with_reducible refine(HB.out _ H3.out).mono ?_);rintro e w4 ⟨rfl,hb4⟩;have H4:=qz (H3.out.step hb4);clear d0 d1 d2 d3 d4 d5 hb4 H3;go_wp2;go_ret;exact⟨rfl,H4.out.below⟩
 . rw[if_neg hm];have hmb:(A9 v 1==0)=false:=by simpa using hm
   have hmn:(A9 v 1 != 0)=true:=by simpa using hm
   generalize A9 v 1=m at*
   have HM:=qz CM;clear CM hm hi hb hT hV hv;go_enter Tryz.func119,Tryz.ntmps119;go_wp2_with (fail);(with_reducible refine(HM.out _ H1.out).mono ?_);rintro e w2 ⟨rfl,hb2⟩;have H2:=qz (H1.out.step hb2);clear hb2 H1;go_wp2;go_ret;exact⟨rfl,H2.out.below⟩
theorem L1 (v:Val) (cs:List Value) (w:World) (hT:B7 w) (hV:Ab w w.heap.size v cs) (hb:v.bulk<=100000000) (hi:Jg v):
 Calls Tryz.prog 85 #[.agg cs.toArray] w fun e w'=>e=.returned (.int .i64 (C3 v))/\Below w.heap.size w w':=by
 have hV':=hV;obtain⟨k,b,n,t,l,o⟩:=v;simp only[Ab]at hV';obtain⟨la,lc,oa,oc,rfl,_,_⟩:=hV';have H1:=qz (Gr.start hT hV);obtain⟨v,hv⟩: ∃v,Val.mk k b n t l o=v:=⟨_,rfl⟩;rw[hv]at hi hb H1 ⊢;have CM:=fun w' (h:Gr w w.heap.size v (Df k b n t la l.length lc oa o.length oc) w')=>Un v _ w' h.2.2.2 (by omega);unfold C3;by_cases hm:A9 v 1=0
 . have CB:=fun w' (h:Gr w w.heap.size v (Df k b n t la l.length lc oa o.length oc) w')=>Mk v _ w' 1 h.2.2.2 (by omega) hm hi;have CD:=fun w' (h:Gr w w.heap.size v (Df k b n t la l.length lc oa o.length oc) w')=>Tm v _ w' h.2.2.2 (by omega);obtain⟨S,hS⟩: ∃S:ByteArray,(⟨(Bd v).toArray⟩:ByteArray)=S:=⟨_,rfl⟩;have hL:(Bd v).length=S.size:=by rw[<-hS,M7]
   rw[if_pos hm,hL];rw[hm]at CM;rw[hS]at CB;generalize Da v=D at CD ⊢;obtain⟨HB,HD,HM⟩:=hid3 CB CD CM;clear CB CM CD hm hi hb hT hV hv hS hL;by_cases hd:16<D
   . rw[if_pos hd];go_enter Tryz.func85,Tryz.ntmps85;go_wp2_with (fail);(with_reducible refine(HM.out _ H1.out).mono ?_);rintro e w2 ⟨rfl,hb2⟩;have H2:=qz (H1.out.step hb2);obtain⟨d0,d1,d2,d3,d4,d5⟩:=H2.out.cells;clear hb2 H1;go_wp2_with (fail);(with_reducible refine(HD.out _ H2.out).mono ?_);rintro e w3 ⟨rfl,hb3⟩;have H3:=qz (H2.out.step hb3);clear d0 d1 d2 d3 d4 d5 hb3 H2;go_wp2;go_ret;exact⟨rfl,H3.out.below⟩
   . rw[if_neg hd];by_cases hl:1024<S.size
     all_goals
      (first|rw[if_pos hl]|rw[if_neg hl])
      go_enter Tryz.func85,Tryz.ntmps85;go_wp2_with (fail);(with_reducible refine(HM.out _ H1.out).mono ?_);rintro e w2 ⟨rfl,hb2⟩;have H2:=qz (H1.out.step hb2);obtain⟨d0,d1,d2,d3,d4,d5⟩:=H2.out.cells;clear hb2 H1;go_wp2_with (fail);(with_reducible refine(HD.out _ H2.out).mono ?_);rintro e w3 ⟨rfl,hb3⟩;have H3:=qz (H2.out.step hb3);clear d0 d1 d2 d3 d4 d5 hb3 H2;obtain⟨d0,d1,d2,d3,d4,d5⟩:=H3.out.cells;go_wp2_with (fail);(with_reducible refine(HB.out _ H3.out).mono ?_);rintro e w4 ⟨rfl,hb4⟩;have H4:=qz (H3.out.step hb4);clear d0 d1 d2 d3 d4 d5 hb4 H3;go_wp2;go_ret;exact⟨rfl,H4.out.below⟩
 . rw[if_neg hm];have hmb:(A9 v 1==0)=false:=by simpa using hm
   have hmn:(A9 v 1 != 0)=true:=by simpa using hm
   generalize A9 v 1=m at*
   have HM:=qz CM;clear CM hm hi hb hT hV hv;go_enter Tryz.func85,Tryz.ntmps85;go_wp2_with (fail);(with_reducible refine(HM.out _ H1.out).mono ?_);rintro e w2 ⟨rfl,hb2⟩;have H2:=qz (H1.out.step hb2);clear hb2 H1;go_wp2;go_ret;exact⟨rfl,H2.out.below⟩
structure POp where
 k:Int
 key:ByteArray
 v:Val
def Zk (k:ByteArray):Bool:= !k.toList.isEmpty&&(decide (k.size<=64)&&Al k)
def Mu (k:ByteArray):Int:=if k.toList.isEmpty then 8 else if 64<k.size then 6 else if Al k then 0 else 3
theorem P4 (k:ByteArray):Mu k=0 ↔ Zk k=true:=by
 unfold Mu Zk
 cases k.toList.isEmpty<;>by_cases h:64<k.size<;>cases Al k<;>simp[h]<;>omega
def Cx:Val->Bool
 | .mk k b n t l o=>Ef k b n t l.length o.length
abbrev Ti:ByteArray:=⟨#[]⟩
abbrev A1:ByteArray:=⟨#[107,101,121]⟩
abbrev Fj:ByteArray:=⟨#[118,97,108,117,101]⟩
def tv (s:ByteArray):Val:=.mk 4 false 0 s [] []
def iv (n:Int):Val:=.mk 3 false n Ti [] []
def lv (l:List Val):Val:=.mk 5 false 0 Ti l []
def ov (o:List (ByteArray×Val)):Val:=.mk 6 false 0 Ti [] o
theorem Jw:Al Ti=true:=by decide
theorem Ab9 (s:ByteArray):Ec 4 false 0 s 0 0=false:=by simp[Ec]
theorem Ab6 (n:Int):Ec 3 false n Ti 0 0=false:=by simp[Ec,Lib.toList_data]
theorem Ab7 (n:Nat):Ec 5 false 0 Ti n 0=false:=by simp[Ec,Lib.toList_data]
theorem Ab8 (n:Nat):Ec 6 false 0 Ti 0 n=false:=by simp[Ec,Lib.toList_data]
theorem Q6 {k:Int} {b:Bool} {n:Int} {t:ByteArray} {l:List Val} {o:List (ByteArray×Val)} {d:Int} (h1:Ec k b n t l.length o.length=false) (h2:d<=64) (h3:Al t=true) (h4:Cy l (d+1)=0) (h5:Cf o none (d+1)=0):A9 (.mk k b n t l o) d=0:=by
 simp only[A9];rw[if_neg (by rw[h1];simp),if_neg (by omega),if_pos h3,if_pos h4];exact h5
theorem Jv {s:ByteArray} {d:Int} (h:Al s=true) (hd:d<=64):A9 (tv s) d=0:=Q6 (Ab9 s) hd h (by simp[Cy]) (by simp[Cf])
theorem Vx {n d:Int} (hd:d<=64):A9 (iv n) d=0:=Q6 (Ab6 n) hd Jw (by simp[Cy]) (by simp[Cf])
theorem Zp {l:List Val} {d:Int} (hd:d<=64) (h:Cy l (d+1)=0):A9 (lv l) d=0:=Q6 (Ab7 _) hd Jw h (by simp[Cf])
theorem N6 {o:List (ByteArray×Val)} {d:Int} (hd:d<=64) (h:Cf o none (d+1)=0):A9 (ov o) d=0:=Q6 (Ab8 _) hd Jw (by simp[Cy]) h
theorem Bx {key:ByteArray} {v:Val} {r:List (ByteArray×Val)} {d:Int} (hk:Al key=true) (hv:A9 v d=0) {last:Option ByteArray} (hl: ∀q,last=some q->M5 key q=false) (hr:Cf r (some key) d=0):Cf ((key,v)::r) last d=0:=by
 have h1:N3 (key,v) last d=0:=by
  simp only[N3];rw[if_pos hk]
  cases last with
  |none=>exact hv
  |some q=>
   simp only;rw[if_neg (by rw[hl q rfl];simp)];exact hv
 simp only[Cf];rw[if_pos h1];exact hr
theorem F1 {k:ByteArray} (h:Zk k=true):Al k=true:=by
 unfold Zk at h;simp only[Bool.and_eq_true]at h;exact h.2.2
theorem Vi {v:Val} (h:C3 v=0):A9 v 1=0/\Da v<=16/\(Bd v).length<=1024:=by
 unfold C3 at h;by_cases h1:A9 v 1=0
 . rw[if_pos h1]at h;by_cases h2:16<Da v
   . rw[if_pos h2]at h;cases h
   rw[if_neg h2]at h;by_cases h3:1024<(Bd v).length
   . rw[if_pos h3]at h;cases h
   exact⟨h1,by omega,by omega⟩
 . rw[if_neg h1]at h;exact absurd h h1
theorem S6 {l:List Val} {d:Int} (h: ∀v ∈ l,A9 v d=0):Cy l d=0:=by
 induction l with
 |nil=>simp[Cy]
 |cons v r ih=>
  simp only[Cy];rw[if_pos (h v (by simp))];exact ih fun x hx=>h x (by simp[hx])
inductive Mut where
 |mk (k:Int) (key dst:ByteArray) (n:Int) (had:Bool) (was:Val) (has:Bool) (v:Val) (l:List Mut)
theorem Mut.ind {p:Mut->Prop} (h: ∀k key dst n had was has v l,(∀m ∈ l,p m)->p (.mk k key dst n had was has v l)): ∀m,p m:=by
 intro m;refine Mut.rec (motive_1:=p) (motive_2:=fun l=> ∀m ∈ l,p m) ?_ ?_ ?_ m
 . intro k key dst n had was has v l hl;exact h _ _ _ _ _ _ _ _ _ hl
 . intro m hm
   cases hm
 . intro m r hm hr x hx;rcases List.mem_cons.1 hx with rfl|hx
   . exact hm
   . exact hr x hx
mutual
def dM:Mut->D
 | .mk k key dst n had was has v l=> .agg [.leaf (.int .i64 k),.leaf (.string key),.leaf (.string dst),.leaf (.int .i64 n),.leaf (.bool had),dV was,.leaf (.bool has),dV v,.row 19 (Vc l)]
def Vc:List Mut->List D
 | []=> []
 |m::r=>dM m::Vc r
end
theorem Kd (m:Mut):(dM m).cells=19:=by
 cases m
 simp only[dM,D.cells,Fz,Cu]
theorem Ke: ∀l:List Mut,Vc l=l.map dM
 | []=>rfl
 |m::r=>by simp only[Vc,List.map_cons,Ke r]
theorem Le (l:List Mut): ∀d ∈ Vc l,d.cells=19:=by
 intro d hd;rw[Ke]at hd;obtain⟨m,_,rfl⟩:=List.mem_map.1 hd;exact Kd m
theorem Qt (l:List Mut):(Vc l).length=l.length:=by rw[Ke,List.length_map]
mutual
def Cg:Mut->Nat
 | .mk _ key dst _ _ was _ v l=>8+key.size+dst.size+was.bulk+v.bulk+Dr l
def Dr:List Mut->Nat
 | []=>0
 |m::r=>Cg m+Dr r
end
theorem E4 {l:List Mut} {m:Mut} (h:m ∈ l):Cg m<=Dr l:=by
 induction l with
 |nil=>cases h
 |cons x r ih=>
  simp only[Dr];rcases List.mem_cons.1 h with rfl|h
  . omega
  . have:=ih h;omega
theorem E3 (l:List Mut):8*l.length<=Dr l:=by
 induction l with
 |nil=>simp[Dr]
 |cons x r ih=>
  simp only[Dr,List.length_cons];have:8<=Cg x:=by cases x;simp only[Cg];omega
  omega
mutual
def Ug:Mut->Prop
 | .mk _ _ _ n _ was _ v l=>(-9223372036854775808<=n/\n<=9223372036854775807)/\Jg was/\Jg v/\Vn l
def Vn:List Mut->Prop
 | []=>True
 |m::r=>Ug m/\Vn r
end
theorem Nv {l:List Mut} {m:Mut} (h:m ∈ l) (hi:Vn l):Ug m:=by
 induction l with
 |nil=>cases h
 |cons x r ih=>
  simp only[Vn]at hi;rcases List.mem_cons.1 h with rfl|h
  . exact hi.1
  . exact ih h hi.2
mutual
def B4:Mut->Nat
 | .mk _ _ _ _ _ _ _ _ l=>1+Bb l
def Bb:List Mut->Nat
 | []=>0
 |m::r=>B4 m+Bb r
end
theorem Oj: ∀(a b:List Mut),Bb (a++b)=Bb a+Bb b
 | [],b=>by simp[Bb]
 |x::r,b=>by simp only[List.cons_append,Bb,Oj r b];omega
theorem Fc: ∀m,8*B4 m<=Cg m:=by
 refine Mut.ind ?_;intro k key dst n had was has v l hl;have:8*Bb l<=Dr l:=by
  induction l with
  |nil=>simp[Bb,Dr]
  |cons x r ih=>
   have h1:=hl x (by simp);have h2:=ih (fun m hm=>hl m (by simp[hm]));simp only[Bb,Dr];omega
 simp only[B4,Cg];omega
def Ai (k:Int) (dst:ByteArray) (n:Int) (had wasZ has valZ:Bool) (ln:Nat):Bool:=
 decide (1<=k)&&decide (k<=7)&&(decide (k=6)||dst.toList.isEmpty)&&(decide (k=3)||decide (n=0))&&(decide (k=4)||decide (k=7)|| !had)&&(decide (k=4)|| !has)&&(had||wasZ)&&(decide (k=1)||decide (k=5)||(decide (k=4)&&has)||valZ)&&(decide (k=7)||decide (ln=0))
def Cq (s:ByteArray):Bool:=decide (s.size<=64)&&Al s
def Cd (k:Int) (key dst:ByteArray) (had:Bool):Bool:=if k=6 then Cq key&&Cq dst else if k=7/\key.toList.isEmpty=true then !had else Zk key
mutual
def D1:Mut->Int->Int
 | .mk k key dst n had was has v l,d=>
   if Ai k dst n had (Cx was) has (Cx v) l.length=false then 9 else if 6<d then 5 else if Cd k key dst had=false then 8
   else if had=true/\C3 was≠0 then C3 was else if(has||decide (k=1)||decide (k=5))=true/\C3 v≠0 then C3 v else H9 l (d+1)
def H9:List Mut->Int->Int
 | [],_=>0
 |m::r,d=>if D1 m d=0 then H9 r d else D1 m d
end
def D2 (m:Mut):Int:=if 64<B4 m then 6 else D1 m 1
theorem N1 {l:List Mut} {q:Nat} {m:Mut} (h:l[q]? =some m) (d:Int):H9 (l.drop q) d=if D1 m d=0 then H9 (l.drop (q+1)) d else D1 m d:=by
 obtain⟨hlt,rfl⟩:=List.getElem?_eq_some_iff.1 h;rw[List.drop_eq_getElem_cons hlt];rfl
structure Num where
 id:Int
 m:Mut
def dN (p:Num):D:=.agg [.leaf (.int .u64 p.id),dM p.m]
theorem Y9 (p:Num):(dN p).cells=20:=by simp only[dN,D.cells,Fz,Kd]
def Si (l:List Num):List D:=l.map dN
theorem Iu (l:List Num): ∀d ∈ Si l,d.cells=20:=by
 intro d hd;obtain⟨v,_,rfl⟩:=List.mem_map.1 hd;exact Y9 v
theorem Iv (l:List Num):(Si l).length=l.length:=List.length_map ..
def Dj:List Num->Nat
 | []=>0
 |p::r=>1+Cg p.m+Dj r
def Xq (l:List Num):Prop:= ∀p ∈ l,0<=p.id/\Ug p.m
def Fq:List Num->Int
 | []=>0
 |p::r=>if p.id<=0\/4611686018427387903<p.id then 2 else if D2 p.m=0 then Fq r else D2 p.m
def B9 (c:Int) (l:List Num):Int:=if c<=0\/4611686018427387903<c then 2 else if 64<l.length then 6 else Fq l
theorem Bf {w:World} {B:Nat} {k:Int} {key dst:ByteArray} {n:Int} {had:Bool} {k1:Int} {b1:Bool} {n1:Int} {t1:ByteArray} {l1:List Val} {o1:List (ByteArray×Val)} {has:Bool} {k2:Int} {b2:Bool} {n2:Int} {t2:ByteArray} {l2:List Val} {o2:List (ByteArray×Val)} {l:List Mut} {cs:List Value} (h:Ag w B (dM (Mut.mk k key dst n had (.mk k1 b1 n1 t1 l1 o1) has (.mk k2 b2 n2 t2 l2 o2) l)) cs):
 ∃la1 lc1 oa1 oc1 la2 lc2 oa2 oc2 a c,cs= [.int .i64 k,.string key,.string dst,.int .i64 n,.bool had,.int .i64 k1,.bool b1,.int .i64 n1,.string t1,.slice la1 l1.length lc1,.slice oa1 o1.length oc1,.bool has,.int .i64 k2,.bool b2,.int .i64 n2,.string t2,.slice la2 l2.length lc2,.slice oa2 o2.length oc2,.slice a l.length c]/\Ab w B (.mk k1 b1 n1 t1 l1 o1) [.int .i64 k1,.bool b1,.int .i64 n1,.string t1,.slice la1 l1.length lc1,.slice oa1 o1.length oc1]/\Ab w B (.mk k2 b2 n2 t2 l2 o2) [.int .i64 k2,.bool b2,.int .i64 n2,.string t2,.slice la2 l2.length lc2,.slice oa2 o2.length oc2]/\Ag w B (.row 19 (Vc l)) [.slice a l.length c]:=by
 simp only[dM,Ag]at h;obtain⟨_,_,rfl,⟨rfl,_⟩,_,_,rfl,⟨rfl,_⟩,_,_,rfl,⟨rfl,_⟩,_,_,rfl,⟨rfl,_⟩,_,_,rfl,⟨rfl,_⟩,x1,_,rfl,h1,_,_,rfl,⟨rfl,_⟩,x2,_,rfl,h2,x3,_,rfl,h3,rfl⟩:=h;have g1:=Cr _ _ h1;have g2:=Cr _ _ h2;have e1:=g1;have e2:=g2;simp only[Ab]at e1 e2;obtain⟨la1,lc1,oa1,oc1,rfl,_,_⟩:=e1;obtain⟨la2,lc2,oa2,oc2,rfl,_,_⟩:=e2;obtain⟨a,c,rfl,hs,hr⟩:=h3;rw[Qt];exact⟨la1,lc1,oa1,oc1,la2,lc2,oa2,oc2,a,c,rfl,g1,g2,a,c,by rw[Qt],hs,hr⟩
theorem Lo {w:World} {B n c:Nat} {l:List Mut} {a:Option Addr} (h:Ag w B (.row 19 (Vc l)) [.slice a n c]) {q:Nat} {m:Mut} (hi:l[q]? =some m):
 ∃g off,a=some ⟨g,off,none⟩/\g<B/\ ∃cs,Ag w B (dM m) cs/\cs.length=19/\ ∀j u,cs[j]? =some u->w.cell? ⟨g,off+q*19+j,none⟩=some u:=
 h.at_ (i:=q) (d:=dM m) (by rw[Ke,List.getElem?_map,hi];rfl)
theorem Kk {w:World} {g:Nat} {t:TypeId} {a0 a1 a2 a3 a4 a5 a6 a7 a8 a9 a10 a11 a12 a13 a14 a15 a16 a17 a18:Value} (h:Aj w g t #[a0,a1,a2,a3,a4,a5,a6,a7,a8,a9,a10,a11,a12,a13,a14,a15,a16,a17,a18]):
 w.cell? ⟨g,0,none⟩=some a0/\w.cell? ⟨g,1,none⟩=some a1/\w.cell? ⟨g,2,none⟩=some a2/\w.cell? ⟨g,3,none⟩=some a3/\w.cell? ⟨g,4,none⟩=some a4/\w.cell? ⟨g,5,none⟩=some a5/\w.cell? ⟨g,6,none⟩=some a6/\w.cell? ⟨g,7,none⟩=some a7/\w.cell? ⟨g,8,none⟩=some a8/\w.cell? ⟨g,9,none⟩=some a9/\w.cell? ⟨g,10,none⟩=some a10/\w.cell? ⟨g,11,none⟩=some a11/\w.cell? ⟨g,12,none⟩=some a12/\w.cell? ⟨g,13,none⟩=some a13/\w.cell? ⟨g,14,none⟩=some a14/\w.cell? ⟨g,15,none⟩=some a15/\w.cell? ⟨g,16,none⟩=some a16/\w.cell? ⟨g,17,none⟩=some a17/\w.cell? ⟨g,18,none⟩=some a18:=⟨h.cell 0,h.cell 1,h.cell 2,h.cell 3,h.cell 4,h.cell 5,h.cell 6,h.cell 7,h.cell 8,h.cell 9,h.cell 10,h.cell 11,h.cell 12,h.cell 13,h.cell 14,h.cell 15,h.cell 16,h.cell 17,h.cell 18⟩
theorem W6 {w:World} {B:Nat} {m:Mut} {cs:List Value} (h:Ag w B (dM m) cs):cs.length=19:=h.len.1.trans (Kd m)
theorem Kv (w:World) (t:TypeId): ∀(vs:List Value) (cs:Array Value) (o:Nat),(w.alloc (.cells cs t)).setCells w.heap.size o vs=w.alloc (.cells (Ie cs o vs) t)
 | [],_,_=>rfl
 |v::r,cs,o=>by
  rw[World.setCells,World.setCell_alloc_at cs t _ o v rfl,Kv w t r];rfl
theorem Zx (cs0 cs:Array Value) (h:cs0.size=cs.size):Ie cs0 0 cs.toList=cs:=by
 refine Array.ext_getElem? fun i=> ?_;rw[Og _ _ _ _ (by simp[h])];by_cases hi:i<cs.size
 . rw[if_pos (by simpa using hi)];simp
 . rw[if_neg (by simpa using hi),Array.getElem?_eq_none (by omega),Array.getElem?_eq_none (by omega)]
theorem B2 {w:World} {g:Nat} {t:TypeId} {cs:Array Value} (h:Aj w g t cs):w.rangeAt g 0 cs.toList:=fun j v hv=>by
 rw[Nat.zero_add];exact(h.cell j).trans (by rw[<-Array.getElem?_toList];exact hv)
section
variable {P:Program}
theorem Dh {op:Oper} {a:Act} {w:World} {K:Act->World->Prop} {Q:Exit->Act->World->Prop} (ty:TypeId) (x y:Operand) (ho:op.op=.store ty x y) {cs0:Array Value} {t:TypeId} (cs:Array Value)
 (hx:a.eval x=.pointer (some ⟨w.heap.size,0,none⟩)) (hy:a.eval y=.agg cs) (hs:cs0.size=cs.size) (hi:(P.info? ty).map (·.size)=some cs.size) (h1:cs.all (·.oneCell')=true)
 (h:K (a.put op.dst undef) (w.alloc (.cells cs t))):op.wp P a (w.alloc (.cells cs0 t)) K Q:=by
 refine wp_store_mid ty x y ho w.heap.size 0 cs hx hy (fun j hj=> ?_) hi h1 ?_
 . have hb:=Aj.new w t cs0;refine⟨?_,hb.frozen _⟩;rw[Nat.zero_add,hb.cell j,Array.getElem?_eq_getElem (by omega)];rfl
 . rw[Kv,Zx _ _ hs];exact h
theorem Ah {op:Oper} {a:Act} {w:World} {K:Act->World->Prop} {Q:Exit->Act->World->Prop} (ty:TypeId) (x:Operand) (ho:op.op=.load ty x) (g:Nat) {t:TypeId} (cs:Array Value) (hb:Aj w g t cs)
 (hx:a.eval x=.pointer (some ⟨g,0,none⟩)) (d:TypeDesc) (hu:P.underlying ty=some d) (hd:d.isRow=true) (hi:(P.info? ty).map (·.size)=some cs.size)
 (h:K (a.put op.dst (.agg cs)) w):op.wp P a w K Q:=by
 refine wp_load_mid ty x ho g 0 hx cs.toList d (B2 hb) hu hd (by simpa using hi) ?_;simpa using h
theorem Jp (b:Nat): ∀(vs:List Value) (o:Nat) (w:World),w.setCells b o vs=Ay w b o vs
 | [],_,_=>rfl
 |_::r,o,_=>by rw[World.setCells,Ay,Jp b r]
theorem Lx (w:World) (b o:Nat) (ty:TypeId) (v:Value) (ht:w.there b o v.cells.size) (hi:(P.info? ty).map (·.size)=some v.cells.size) (h1: ∀u ∈ v.cells.toList,u.oneCell'=true):
 (storeVar ty ⟨b,o,none⟩ v).run P w=.ok () (w.setCells b o v.cells.toList):=by
 have:=run_storeCells_cells (P:=P) b o v.cells.toList 0 w (fun j hj=>by simpa using(ht j (by simpa using hj)).1) (fun j hj=>by simpa using(ht j (by simpa using hj)).2) h1
 cases hq:P.info? ty with
 |none=>simp[hq]at hi
 |some i=>
  have hs:v.cells.size=i.size:=by simp[hq]at hi;omega
  simp only[Nat.add_zero]at this;simp[storeVar,sizeOf,typeInfo,hq,hs,this]
theorem Ev {op:Oper} {a:Act} {w:World} {K:Act->World->Prop} {Q:Exit->Act->World->Prop} (ty:TypeId) (x y:Operand) (ho:op.op=.store ty x y) (g o:Nat) {t:TypeId} {cs:Array Value} (hb:Aj w g t cs) (v:Value)
 (hx:a.eval x=.pointer (some ⟨g,o,none⟩)) (hy:a.eval y=v) (hl:o+v.cells.size<=cs.size) (hi:(P.info? ty).map (·.size)=some v.cells.size) (h1: ∀u ∈ v.cells.toList,u.oneCell'=true)
 {B:Nat} {w0:World} (hB:Below B w0 w) (hg:B<=g) (h: ∀w',Aj w' g t (Ie cs o v.cells.toList)->Below B w0 w'->K (a.put op.dst undef) w'):op.wp P a w K Q:=by
 have ht:w.there g o v.cells.size:=fun j hj=>by
  refine⟨?_,hb.frozen _⟩;rw[hb.cell (o+j),Array.getElem?_eq_getElem (by omega)];rfl
 unfold Oper.wp execOp;simp only[ho,hx,hy,Instr.storeAt,Instr.sureAddr,Sem.run_bind,Sem.run_pure,Result.andThen_ok,Lx w g o ty v ht hi h1];rw[Jp];exact h _ (Jy _ hb) (Ap _ hB hg)
end
end Go.Proofs.YtobmaegpfbheoaaGreatDoor
