/- Parts: Texts are read as the values that they are texts of, whatever blanks stand between their parts. Plain. No condition. -/
import Derived.Test.YtdbejcbbhomdbaaGreatDoorKPu14
import Derived.Test.YtdbejcbbhomdbaaGreatDoorKPu18
set_option maxHeartbeats 20000000
set_option maxRecDepth 100000
namespace Go.Proofs.YtdbejcbbhomdbaaGreatDoor
open Go.RowKit
def Jg (w:World) (g:Nat) (v:Val) (c:List Value) (w':World):Prop:=
 Below w.heap.size w w'/\w'.heap[g]? =some (.cells c.toArray 33 (0,0))/\Cl w'/\Ae w' w'.heap.size v c
theorem Jg.step {w w' w'':World} {g:Nat} {v:Val} {c:List Value} (h:Jg w g v c w') (hb:Below w'.heap.size w' w''):Jg w g v c w'':=by
 obtain⟨h1,h2,h3,h4⟩:=h;exact⟨h1.trans (hb.mono h1.size),(hb.block _ (Array.getElem?_eq_some_iff.1 h2).1).trans h2,h3.below hb,Ae.more hb.size _ _ (h4.below hb)⟩
theorem Jg.start {w:World} {v:Val} {c:List Value} (hT:Cl w) (hV:Ae w w.heap.size v c):Jg w w.heap.size v c (w.alloc (.cells c.toArray 33)):=by
 have hb:Below w.heap.size w (w.alloc (.cells c.toArray 33)):=(Below.refl _ _).alloc (Nat.le_refl _) _;exact⟨hb,heap_alloc_new _ _,hT.below hb,Ae.more hb.size _ _ (hV.below hb)⟩
theorem Jg.cells {w w':World} {g:Nat} {v:Val} {k:Int} {b:Bool} {n:Int} {t:ByteArray} {x y:Value} (h:Jg w g v [.int .i64 k,.bool b,.int .i64 n,.string t,x,y] w'):
 w'.cell? ⟨g,0,none⟩=some (.int .i64 k)/\w'.cell? ⟨g,1,none⟩=some (.bool b)/\w'.cell? ⟨g,2,none⟩=some (.int .i64 n)/\w'.cell? ⟨g,3,none⟩=some (.string t)/\w'.cell? ⟨g,4,none⟩=some x/\w'.cell? ⟨g,5,none⟩=some y:=
 Ot h.2.1
theorem Jg.tabs {w w':World} {g:Nat} {v:Val} {c:List Value} (h:Jg w g v c w'):Cl w':=h.2.2.1
theorem Jg.below {w w':World} {g:Nat} {v:Val} {c:List Value} (h:Jg w g v c w'):Below w.heap.size w w':=h.1
theorem We {w:World} {B m:Nat} {v:Value} {ns:List Value} (h:w.ownsRow B 33 6 v m ns):
 ∃la lc,v=.slice la m lc/\(m=0\/ ∃g,la=some ⟨g,0,none⟩/\B<=g/\g<w.heap.size/\ ∀j u,ns[j]? =some u->w.cell? ⟨g,0+j,none⟩=some u):=by
 rcases h.2 with⟨rfl,hz⟩|⟨g,cap,cur,rfl,hbg,hg,_,_,_,_⟩
 . subst hz;exact⟨none,0,rfl,.inl rfl⟩
 . refine⟨_,cap,rfl,.inr ⟨g,rfl,hbg,(Array.getElem?_eq_some_iff.1 hg).1,fun j u hu=> ?_⟩⟩;have:=h.cells (g:=g) rfl j u hu;rw[Go.WideShapes.add_plain]at this;exact this
def E1 (v:Val):Int:=if Br v 1=0 then(if 16<Dk v then 5 else if 1024<(C8 v).length then 6 else 0)else Br v 1
theorem Sx (v:Val) (cs:List Value) (w:World) (hT:Cl w) (hV:Ae w w.heap.size v cs) (hb:v.bulk<=100000000) (hi:Nq v):
 Calls Tryz.prog 39 #[.agg cs.toArray] w fun e w'=>e=.returned (.int .i64 (E1 v))/\Below w.heap.size w w':=by
 have hV':=hV;obtain⟨k,b,n,t,l,o⟩:=v;simp only[Ae]at hV';obtain⟨la,lc,oa,oc,rfl,_,_⟩:=hV';have H1:=qz (Jg.start hT hV);obtain⟨v,hv⟩: ∃v,Val.mk k b n t l o=v:=⟨_,rfl⟩;rw[hv]at hi hb H1 ⊢;have CM:=fun w' (h:Jg w w.heap.size v (Dr k b n t la l.length lc oa o.length oc) w')=>Ol v _ w' h.tabs h.2.2.2 (by omega);unfold E1;by_cases hm:Br v 1=0
 . have hok:=Yy v 1 hm hi;have CB:=fun w' (h:Jg w w.heap.size v (Dr k b n t la l.length lc oa o.length oc) w')=>Q5 v _ w' h.tabs h.2.2.2 (by omega) hok;have CD:=fun w' (h:Jg w w.heap.size v (Dr k b n t la l.length lc oa o.length oc) w')=>Tf v _ w' h.2.2.2 (by omega);rw[if_pos hm];rw[hm]at CM;generalize (C8 v).length=L at CB ⊢;generalize Dk v=D at CD ⊢;obtain⟨HB,HD,HM⟩:=hid3 CB CD CM;clear CB CM CD hm hi hb hT hV hv hok;by_cases hd:16<D
   . rw[if_pos hd];go_enter Tryz.func39,Tryz.ntmps39;go_wp2_with (fail);(with_reducible refine(HM.out _ H1.out).mono ?_);rintro e w2 ⟨rfl,hb2⟩;have H2:=qz (H1.out.step hb2);obtain⟨d0,d1,d2,d3,d4,d5⟩:=H2.out.cells;clear hb2 H1;go_wp2_with (fail);(with_reducible refine(HD.out _ H2.out).mono ?_);rintro e w3 ⟨rfl,hb3⟩;have H3:=qz (H2.out.step hb3);clear d0 d1 d2 d3 d4 d5 hb3 H2;go_wp2;go_ret;exact⟨rfl,H3.out.below⟩
   . rw[if_neg hd];by_cases hl:1024<L
     all_goals
      (first|rw[if_pos hl]|rw[if_neg hl])
      go_enter Tryz.func39,Tryz.ntmps39;go_wp2_with (fail);(with_reducible refine(HM.out _ H1.out).mono ?_);rintro e w2 ⟨rfl,hb2⟩;have H2:=qz (H1.out.step hb2);obtain⟨d0,d1,d2,d3,d4,d5⟩:=H2.out.cells;clear hb2 H1;go_wp2_with (fail);(with_reducible refine(HD.out _ H2.out).mono ?_);rintro e w3 ⟨rfl,hb3⟩;have H3:=qz (H2.out.step hb3);clear d0 d1 d2 d3 d4 d5 hb3 H2;obtain⟨d0,d1,d2,d3,d4,d5⟩:=H3.out.cells;go_wp2_with (fail);(with_reducible refine(HB.out _ H3.out).mono ?_);rintro e w4 ⟨rfl,hb4⟩;have H4:=qz (H3.out.step hb4);clear d0 d1 d2 d3 d4 d5 hb4 H3;go_wp2;go_ret;exact⟨rfl,H4.out.below⟩
 . rw[if_neg hm];have hmb:(Br v 1==0)=false:=by simpa using hm
   have hmn:(Br v 1 != 0)=true:=by simpa using hm
   generalize Br v 1=m at*
   have HM:=qz CM;clear CM hm hi hb hT hV hv;go_enter Tryz.func39,Tryz.ntmps39;go_wp2_with (fail);(with_reducible refine(HM.out _ H1.out).mono ?_);rintro e w2 ⟨rfl,hb2⟩;have H2:=qz (H1.out.step hb2);clear hb2 H1;go_wp2;go_ret;exact⟨rfl,H2.out.below⟩
def Gy (k:Int) (b:Bool) (n:Int) (t:ByteArray) (ln on:Nat):Bool:=decide (k=0)&& !b&&decide (n=0)&&t.toList.isEmpty&&decide (ln=0)&&decide (on=0)
structure POp where
 k:Int
 key:ByteArray
 v:Val
def dQ (p:POp):D:=.agg [.leaf (.int .i64 p.k),.leaf (.string p.key),dV p.v]
theorem Em (p:POp):(dQ p).cells=8:=by simp only[dQ,D.cells,Fg,Cr]
def D0 (l:List POp):List D:=l.map dQ
theorem C7 (l:List POp):(D0 l).length=l.length:=List.length_map ..
def Cq:List POp->Nat
 | []=>0
 |p::r=>2+p.key.size+p.v.bulk+Cq r
theorem Im {l:List POp} {p:POp} (h:p ∈ l):2+p.key.size+p.v.bulk<=Cq l:=by
 induction l with
 |nil=>cases h
 |cons x r ih=>
  simp only[Cq];rcases List.mem_cons.1 h with rfl|h
  . omega
  . have:=ih h;omega
theorem Il (l:List POp):8*l.length<=Cq l:=by
 induction l with
 |nil=>simp[Cq]
 |cons x r ih=>simp only[Cq,List.length_cons];have:=x.v.bulk_pos;omega
def inQ (l:List POp):Prop:= ∀p ∈ l,Nq p.v
def Ky (k:ByteArray):Bool:= !k.toList.isEmpty&&(decide (k.size<=64)&&Bc k)
def Rw (k:ByteArray):Int:=if k.toList.isEmpty then 8 else if 64<k.size then 6 else if Bc k then 0 else 3
theorem O4 (k:ByteArray):Rw k=0 ↔ Ky k=true:=by
 unfold Rw Ky
 cases k.toList.isEmpty<;>by_cases h:64<k.size<;>cases Bc k<;>simp[h]<;>omega
def Ve:Val->Bool
 | .mk k b n t l o=>Gy k b n t l.length o.length
def Et (p:POp):Bool:=if p.k=1 then false else if p.k=2 then !Ve p.v else if p.k=3 then !p.key.toList.isEmpty|| !Ve p.v else true
def Hh (q p:POp):Bool:=decide (p.k≠3)&&(decide (q.k=3)||Op.bytesLess q.key.toList p.key.toList)
def Cf:Option POp->List POp->Int
 |_, []=>0
 |prev,p::r=>
  if Et p||prev.any (fun q=> !Hh q p)then 2
  else if p.k=3 then Cf (some p) r
  else if Ky p.key=false then 8
  else if p.k=2 then Cf (some p) r
  else if E1 p.v=0 then Cf (some p) r else E1 p.v
inductive Mut where
 |mk (k:Int) (key dst:ByteArray) (n:Int) (had:Bool) (was:Val) (has:Bool) (v:Val) (l:List Mut)
theorem Mut.ind {p:Mut->Prop} (h: ∀k key dst n had was has v l,(∀m ∈ l,p m)->p (.mk k key dst n had was has v l)): ∀m,p m:=by
 intro m;refine Mut.rec (motive_1:=p) (motive_2:=fun l=> ∀m ∈ l,p m) ?_ ?_ ?_ m
 . intro k key dst n had was has v l hl;exact h _ _ _ _ _ _ _ _ _ hl
 . intro m hm
   cases hm
 . intro m r hm hr x hx;rcases List.mem_cons.1 hx with rfl|hx
   . exact hm
   . exact hr x hx
mutual
def dM:Mut->D
 | .mk k key dst n had was has v l=> .agg [.leaf (.int .i64 k),.leaf (.string key),.leaf (.string dst),.leaf (.int .i64 n),.leaf (.bool had),dV was,.leaf (.bool has),dV v,.row 19 (dMs l)]
def dMs:List Mut->List D
 | []=> []
 |m::r=>dM m::dMs r
end
mutual
def Abs:Mut->Nat
 | .mk _ key dst _ _ was _ v l=>8+key.size+dst.size+was.bulk+v.bulk+Xi l
def Xi:List Mut->Nat
 | []=>0
 |m::r=>Abs m+Xi r
end
mutual
def inM:Mut->Prop
 | .mk _ _ _ n _ was _ v l=>(-9223372036854775808<=n/\n<=9223372036854775807)/\Nq was/\Nq v/\Abw l
def Abw:List Mut->Prop
 | []=>True
 |m::r=>inM m/\Abw r
end
mutual
def Ace:Mut->Nat
 | .mk _ _ _ _ _ _ _ _ l=>1+Zi l
def Zi:List Mut->Nat
 | []=>0
 |m::r=>Ace m+Zi r
end
def Abq (k:Int) (dst:ByteArray) (n:Int) (had wasZ has valZ:Bool) (ln:Nat):Bool:=
 decide (1<=k)&&decide (k<=7)&&(decide (k=6)||dst.toList.isEmpty)&&(decide (k=3)||decide (n=0))&&(decide (k=4)||decide (k=7)|| !had)&&(decide (k=4)|| !has)&&(had||wasZ)&&(decide (k=1)||decide (k=5)||(decide (k=4)&&has)||valZ)&&(decide (k=7)||decide (ln=0))
def Zf (s:ByteArray):Bool:=decide (s.size<=64)&&Bc s
def Abc (k:Int) (key dst:ByteArray) (had:Bool):Bool:=if k=6 then Zf key&&Zf dst else if k=7/\key.toList.isEmpty=true then !had else Ky key
mutual
def Ab7:Mut->Int->Int
 | .mk k key dst n had was has v l,d=>
   if Abq k dst n had (Ve was) has (Ve v) l.length=false then 9 else if 6<d then 5 else if Abc k key dst had=false then 8
   else if had=true/\E1 was≠0 then E1 was else if(has||decide (k=1)||decide (k=5))=true/\E1 v≠0 then E1 v else Aaq l (d+1)
def Aaq:List Mut->Int->Int
 | [],_=>0
 |m::r,d=>if Ab7 m d=0 then Aaq r d else Ab7 m d
end
structure Num where
 id:Int
 m:Mut
theorem Lc: ∀{l:List Val},(∀v ∈ l,∀d d':Int,Br v d'=0->d+Dk v<=65->Br v d=0)-> ∀{d d':Int},Dz l d'=0->(l= []\/d+Fh l<=65)->Dz l d=0
 | [],_,_,_,_,_=>by simp[Dz]
 |v::r,ih,d,d',h,hd=>by
  have hd:=hd.resolve_left (by simp);simp only[Fh]at hd;simp only[Dz]at h ⊢;by_cases h0:Br v d'=0
  . rw[if_pos h0]at h;rw[if_pos (ih v (by simp) d d' h0 (by omega))];exact Lc (fun x hx=>ih x (by simp[hx])) h (.inr (by omega))
  . rw[if_neg h0]at h;exact absurd h h0
theorem Ld: ∀{l:List (ByteArray×Val)},(∀m ∈ l,∀d d':Int,Br m.2 d'=0->d+Dk m.2<=65->Br m.2 d=0)-> ∀{last:Option ByteArray} {d d':Int},Ea l last d'=0->(l= []\/d+Fi l<=65)->Ea l last d=0
 | [],_,_,_,_,_,_=>by simp[Ea]
 |(key,v)::r,ih,last,d,d',h,hd=>by
  have hd:=hd.resolve_left (by simp);simp only[Fi,Uw]at hd;simp only[Ea]at h ⊢;by_cases h0:P4 (key,v) last d'=0
  . rw[if_pos h0]at h;have h1:P4 (key,v) last d=0:=by
     simp only[P4]at h0 ⊢;by_cases hv:Bc key=true
     . rw[if_pos hv]at h0 ⊢
       cases last with
       |none=>exact ih (key,v) (by simp) d d' h0 (by simp only;omega)
       |some q=>
        simp only at h0 ⊢;by_cases hl:Zo key q=true
        . rw[if_pos hl]at h0;cases h0
        . rw[if_neg hl]at h0 ⊢;exact ih (key,v) (by simp) d d' h0 (by simp only;omega)
     . rw[if_neg hv]at h0;cases h0
    rw[if_pos h1];exact Ld (fun x hx=>ih x (by simp[hx])) h (.inr (by omega))
  . rw[if_neg h0]at h;exact absurd h h0
theorem Rz: ∀(v:Val) (d d':Int),Br v d'=0->d+Dk v<=65->Br v d=0:=by
 refine Val.ind ?_;intro k b n t l o hl ho d d' h hd;obtain⟨h1,_,h3,h4,h5⟩:=Tu h;obtain⟨_,_,k5,k6⟩:=O9 h1;simp only[Dk]at hd;have hL:Dz l (d+1)=0:=by
  refine Lc hl h4 ?_;rcases k5 with e|e
  . rw[if_pos e]at hd;exact .inr (by omega)
  . exact .inl (List.length_eq_zero_iff.1 e)
 have hO:Ea o none (d+1)=0:=by
  refine Ld ho h5 ?_;rcases k6 with e|e
  . rw[if_neg (by omega),if_pos e]at hd;exact .inr (by omega)
  . exact .inl (List.length_eq_zero_iff.1 e)
 have h64: ¬64<d:=by
  have:0<=(if k=5 then Fh l else if k=6 then Fi o else 0):=Nat.zero_le _;omega
 simp only[Br];rw[if_neg (by rw[h1];simp),if_neg h64,if_pos h3,if_pos hL,hO]
abbrev R8:ByteArray:=⟨#[]⟩
abbrev Dc:ByteArray:=⟨#[107,101,121]⟩
abbrev G2:ByteArray:=⟨#[111,112]⟩
abbrev Gd:ByteArray:=⟨#[118,97,108,117,101]⟩
abbrev Gw:ByteArray:=⟨#[112,117,116]⟩
abbrev Ia:ByteArray:=⟨#[100,101,108]⟩
abbrev Ez:ByteArray:=⟨#[99,108,101,97,114]⟩
def tv (s:ByteArray):Val:=.mk 4 false 0 s [] []
def iv (n:Int):Val:=.mk 3 false n R8 [] []
def lv (l:List Val):Val:=.mk 5 false 0 R8 l []
def ov (o:List (ByteArray×Val)):Val:=.mk 6 false 0 R8 [] o
def Ly (p:POp):Val:=ov (if p.k=1 then [(Dc,tv p.key),(G2,tv Gw),(Gd,p.v)]else if p.k=2 then [(Dc,tv p.key),(G2,tv Ia)]else [(G2,tv Ez)])
def Fv (l:List POp):Val:=lv (l.map Ly)
theorem M0:Bc R8=true:=by decide
theorem Abj (s:ByteArray):Gr 4 false 0 s 0 0=false:=by simp[Gr]
theorem Abh (n:Nat):Gr 5 false 0 R8 n 0=false:=by simp[Gr,Lib.toList_data]
theorem Abi (n:Nat):Gr 6 false 0 R8 0 n=false:=by simp[Gr,Lib.toList_data]
theorem Tv {k:Int} {b:Bool} {n:Int} {t:ByteArray} {l:List Val} {o:List (ByteArray×Val)} {d:Int} (h1:Gr k b n t l.length o.length=false) (h2:d<=64) (h3:Bc t=true) (h4:Dz l (d+1)=0) (h5:Ea o none (d+1)=0):Br (.mk k b n t l o) d=0:=by
 simp only[Br];rw[if_neg (by rw[h1];simp),if_neg (by omega),if_pos h3,if_pos h4];exact h5
theorem Mu {s:ByteArray} {d:Int} (h:Bc s=true) (hd:d<=64):Br (tv s) d=0:=Tv (Abj s) hd h (by simp[Dz]) (by simp[Ea])
theorem Abe {l:List Val} {d:Int} (hd:d<=64) (h:Dz l (d+1)=0):Br (lv l) d=0:=Tv (Abh _) hd M0 h (by simp[Ea])
theorem Abf {o:List (ByteArray×Val)} {d:Int} (hd:d<=64) (h:Ea o none (d+1)=0):Br (ov o) d=0:=Tv (Abi _) hd M0 (by simp[Dz]) h
theorem Fd {key:ByteArray} {v:Val} {r:List (ByteArray×Val)} {d:Int} (hk:Bc key=true) (hv:Br v d=0) {last:Option ByteArray} (hl: ∀q,last=some q->Zo key q=false) (hr:Ea r (some key) d=0):Ea ((key,v)::r) last d=0:=by
 have h1:P4 (key,v) last d=0:=by
  simp only[P4];rw[if_pos hk]
  cases last with
  |none=>exact hv
  |some q=>
   simp only;rw[if_neg (by rw[hl q rfl];simp)];exact hv
 simp only[Ea];rw[if_pos h1];exact hr
def okQ (p:POp):Prop:=(p.k=1/\Ky p.key=true/\E1 p.v=0)\/(p.k=2/\Ky p.key=true)\/p.k=3
theorem Fj: ∀{l:List POp} {prev:Option POp},Cf prev l=0-> ∀p ∈ l,okQ p
 |p::r,prev,h,x,hx=>by
  simp only[Cf]at h;by_cases h1:(Et p||prev.any fun q=> !Hh q p)=true
  . rw[if_pos h1]at h;cases h
  rw[if_neg h1]at h;by_cases h3:p.k=3
  . rw[if_pos h3]at h;rcases List.mem_cons.1 hx with rfl|hx
    . exact .inr (.inr h3)
    . exact Fj h x hx
  rw[if_neg h3]at h;by_cases hk:Ky p.key=false
  . rw[if_pos hk]at h;cases h
  rw[if_neg hk]at h;have hk':Ky p.key=true:=by simpa using hk
  by_cases h2:p.k=2
  . rw[if_pos h2]at h;rcases List.mem_cons.1 hx with rfl|hx
    . exact .inr (.inl ⟨h2,hk'⟩)
    . exact Fj h x hx
  rw[if_neg h2]at h;by_cases hf:E1 p.v=0
  . rw[if_pos hf]at h;rcases List.mem_cons.1 hx with rfl|hx
    . refine .inl ⟨?_,hk',hf⟩;have h1':Et x=false:=by
       cases e:Et x with
       |false=>rfl
       |true=>rw[e]at h1;simp at h1
      unfold Et at h1';by_cases h11:x.k=1
      . exact h11
      . rw[if_neg h11,if_neg h2,if_neg h3]at h1';cases h1'
    . exact Fj h x hx
  . rw[if_neg hf]at h;exact absurd h hf
theorem Ms {k:ByteArray} (h:Ky k=true):Bc k=true:=by
 unfold Ky at h;simp only[Bool.and_eq_true]at h;exact h.2.2
theorem Th {v:Val} (h:E1 v=0):Br v 1=0/\Dk v<=16/\(C8 v).length<=1024:=by
 unfold E1 at h;by_cases h1:Br v 1=0
 . rw[if_pos h1]at h;by_cases h2:16<Dk v
   . rw[if_pos h2]at h;cases h
   rw[if_neg h2]at h;by_cases h3:1024<(C8 v).length
   . rw[if_pos h3]at h;cases h
   exact⟨h1,by omega,by omega⟩
 . rw[if_neg h1]at h;exact absurd h h1
theorem Ys {p:POp} {d:Int} (h:okQ p) (hd:d<=40):Br (Ly p) d=0:=by
 have v1:Bc Dc=true:=by decide
 have v2:Bc G2=true:=by decide
 have v3:Bc Gd=true:=by decide
 have w1:Bc Gw=true:=by decide
 have w2:Bc Ia=true:=by decide
 have w3:Bc Ez=true:=by decide
 have l1:Zo G2 Dc=false:=by decide+kernel
 have l2:Zo Gd G2=false:=by decide+kernel
 unfold Ly;refine Abf (by omega) ?_;rcases h with⟨h,hk,hf⟩|⟨h,hk⟩|h
 . rw[if_pos h];obtain⟨f1,f2,_⟩:=Th hf;exact Fd v1 (Mu (Ms hk) (by omega)) (fun _ e=>by cases e) (Fd v2 (Mu w1 (by omega)) (fun q e=>by cases e;exact l1) (Fd v3 (Rz p.v _ 1 f1 (by omega)) (fun q e=>by cases e;exact l2) (by simp[Ea])))
 . rw[if_neg (by omega),if_pos h];exact Fd v1 (Mu (Ms hk) (by omega)) (fun _ e=>by cases e) (Fd v2 (Mu w2 (by omega)) (fun q e=>by cases e;exact l1) (by simp[Ea]))
 . rw[if_neg (by omega),if_neg (by omega)];exact Fd v2 (Mu w3 (by omega)) (fun _ e=>by cases e) (by simp[Ea])
theorem Yr {l:List Val} {d:Int} (h: ∀v ∈ l,Br v d=0):Dz l d=0:=by
 induction l with
 |nil=>simp[Dz]
 |cons v r ih=>
  simp only[Dz];rw[if_pos (h v (by simp))];exact ih fun x hx=>h x (by simp[hx])
theorem Vz {l:List POp} {d:Int} (h: ∀p ∈ l,okQ p) (hd:d<=39):Br (Fv l) d=0:=by
 refine Abe (by omega) (Yr fun v hv=> ?_);obtain⟨p,hp,rfl⟩:=List.mem_map.1 hv;exact Ys (h p hp) (by omega)
theorem Z1 {p:POp} (h:Nq p.v):Nq (Ly p):=by
 unfold Ly ov;simp only[Nq];refine⟨by omega,by simp[Tn], ?_⟩;have ht: ∀s,Nq (tv s):=fun s=>by simp only[tv,Nq,Tn,O2];exact⟨by omega,trivial,trivial⟩
 by_cases h1:p.k=1
 . rw[if_pos h1];exact⟨ht p.key,ht Gw,h,trivial⟩
 . rw[if_neg h1];by_cases h2:p.k=2
   . rw[if_pos h2];exact⟨ht p.key,ht Ia,trivial⟩
   . rw[if_neg h2];exact⟨ht Ez,trivial⟩
theorem X9 {l:List POp} (h:inQ l):Nq (Fv l):=by
 unfold Fv lv;simp only[Nq];refine⟨by omega, ?_,by simp[O2]⟩
 induction l with
 |nil=>simp[Tn]
 |cons p r ih=>
  simp only[List.map_cons,Tn];exact⟨Z1 (h p (by simp)),ih fun x hx=>h x (by simp[hx])⟩
theorem Vk (p:POp):(Ly p).bulk<=60+p.key.size+p.v.bulk:=by
 have e1:(⟨#[]⟩:ByteArray).size=0:=rfl;have e2:Dc.size=3:=rfl;have e3:G2.size=2:=rfl;have e4:Gd.size=5:=rfl;have e5:Gw.size=3:=rfl;have e6:Ia.size=3:=rfl;have e7:Ez.size=5:=rfl;unfold Ly ov
 split
 . simp only[Val.bulk,Bd,Af,Cp,tv,e1,e2,e3,e4,e5];omega
 . split
   . simp only[Val.bulk,Bd,Af,Cp,tv,e1,e2,e3,e6];omega
   . simp only[Val.bulk,Bd,Af,Cp,tv,e1,e3,e7];omega
theorem Ta (l:List POp):(Fv l).bulk<=6+60*l.length+Cq l:=by
 have e1:(⟨#[]⟩:ByteArray).size=0:=rfl;have h:Bd (l.map Ly)<=60*l.length+Cq l:=by
  induction l with
  |nil=>simp[Bd]
  |cons p r ih=>
   have:=Vk p;simp only[List.map_cons,Bd,Cq,List.length_cons];omega
 unfold Fv lv;simp only[Val.bulk,Af,e1];omega
def Ei (a b:Int):Int:=if a<b then -1 else if b<a then 1 else 0
theorem B3 {a b:Int}:Ei a b=0 ↔ a=b:=by
 unfold Ei
 split
 . constructor<;>intro h<;>omega
 split
 . constructor<;>intro h<;>omega
 . constructor<;>intro h<;>omega
theorem Dh (a b:Int) (w:World):Calls Tryz.prog 100 #[.int .i64 a,.int .i64 b] w fun e w'=>e=.returned (.int .i64 (Ei a b))/\w'=w:=by
 unfold Ei;by_cases h1:a<b
 . rw[if_pos h1];go_enter Tryz.func100,Tryz.ntmps100;go_wp2;go_ret;exact⟨rfl,rfl⟩
 rw[if_neg h1];by_cases h2:b<a
 . rw[if_pos h2];go_enter Tryz.func100,Tryz.ntmps100;go_wp2;go_ret;exact⟨rfl,rfl⟩
 . rw[if_neg h2];go_enter Tryz.func100,Tryz.ntmps100;go_wp2;go_ret;exact⟨rfl,rfl⟩
def Fb (a b:ByteArray) (w:World) (e:Ending) (w':World):Prop:= ∃c:Int,e=.returned (.int .i64 c)/\(c=0 ↔ a=b)/\Below w.heap.size w w'
theorem Fb.of {a b:ByteArray} {w w':World} {c:Int} (h:c=0 ↔ a=b) (hb:Below w.heap.size w w'):Fb a b w (.returned (.int .i64 c)) w':=⟨c,rfl,h,hb⟩
theorem Lq (a b:ByteArray) (w:World) (ha:a.size<=1000000000) (hb:b.size<=1000000000):
 Calls Tryz.prog 101 #[.string a,.string b] w (Fb a b w):=by
 have H0:Hid (a.data.toList.take 0=b.data.toList.take 0):=by show _=_;simp
 have HB:Hid (Below w.heap.size w w):=Below.refl _ _;go_enter Tryz.func101,Tryz.ntmps101;go_wp2_with (fail);go_loopw [5] (fun i wr=> ∃k:Nat,i=.int .i64 k/\k<=a.size/\k<=b.size/\Hid (a.data.toList.take k=b.data.toList.take k)/\Hid (Below w.heap.size w wr)) (fun i _=>a.size - (intOf i).toNat)
 case atStart=>exact⟨0,rfl,Nat.zero_le _,Nat.zero_le _,H0,HB⟩
 case round=>
  obtain⟨k,rfl,hka,hkb,ht,hbw⟩:=hrel;clear H0 HB;by_cases hlt:k<a.size
  . by_cases hlt2:k<b.size
    . obtain⟨x,hx⟩: ∃x,a[k]=x:=⟨_,rfl⟩;obtain⟨y,hy⟩: ∃y,b[k]=y:=⟨_,rfl⟩;have hax:a.data.toList[k]? =some x:=by
       rw[Array.getElem?_toList,<-hx];exact Array.getElem?_eq_getElem (by exact hlt)
      have hby:b.data.toList[k]? =some y:=by
       rw[Array.getElem?_toList,<-hy];exact Array.getElem?_eq_getElem (by exact hlt2)
      have hxb:(x.toNat:Int)<256:=by have:=x.toNat_lt;omega
      have hyb:(y.toNat:Int)<256:=by have:=y.toNat_lt;omega
      by_cases hxy:x=y
      . subst hxy;have Hn:Hid (a.data.toList.take (k+1)=b.data.toList.take (k+1)):=by
         show _=_;rw[List.take_add_one,List.take_add_one,ht.out,hax,hby]
        clear ht hax hby;go_wp2_with (fail);go_quiet (fail);have hbw2:=qz (Ba hbw.out nq);clear hbw;go_wp2;go_roundw
        case rel=>exact⟨k+1,by go_num,by omega,by omega,Hn,hbw2⟩
        case measure=>simp only[intOf];omega
      . have hxn:x.toNat≠y.toNat:=fun e=>hxy (UInt8.toNat_inj.1 e);have h1:((x.toNat:Int)==(y.toNat:Int))=false:=by simp;omega
        have h2:((x.toNat:Int) != (y.toNat:Int))=true:=by simp[bne];omega
        have hab:a≠b:=by
         rintro rfl;rw[hax]at hby;exact hxy (Option.some.inj hby)
        have hc:Ei (x.toNat:Int) (y.toNat:Int)≠0:=by rw[Ne,B3];omega
        obtain⟨C,hC⟩: ∃C,Ei (x.toNat:Int) (y.toNat:Int)=C:=⟨_,rfl⟩;have cN:=fun w=>Dh (x.toNat:Int) (y.toNat:Int) w;rw[hC]at cN hc;have HN:=qz cN;have Hc:Hid (C=0 ↔ a=b):=⟨fun e=>absurd e hc,fun e=>absurd e hab⟩;clear ht hax hby hxy hxn hab hc hC cN;go_wp2_with (fail);go_quiet (fail);have hbw2:=Ba hbw.out nq;clear hbw;generalize wr.drewN nq=w9 at hbw2 ⊢;have Hbw2:=qz hbw2;clear hbw2;go_wp2_with (fail);go_quiet ((go_at_call 100;exact Calls.quiet_of_same (HN.out _)));have hbw3:=qz (Ba Hbw2.out nq);clear Hbw2;go_wp2;go_ret;exact Fb.of Hc.out hbw3.out
    . have hkb':k=b.size:=by omega
      subst hkb';have hc:Ei (a.size:Int) (b.size:Int)≠0:=by rw[Ne,B3];omega
      have hab:a≠b:=by rintro rfl;omega
      obtain⟨C,hC⟩: ∃C,Ei (a.size:Int) (b.size:Int)=C:=⟨_,rfl⟩;have cN:=fun w=>Dh (a.size:Int) (b.size:Int) w;rw[hC]at cN hc;have HN:=qz cN;have Hc:Hid (C=0 ↔ a=b):=⟨fun e=>absurd e hc,fun e=>absurd e hab⟩;clear ht hab hc hC cN;go_wp2_with (fail);(with_reducible refine(HN.out _).mono ?_);rintro e w' ⟨rfl,rfl⟩;go_wp2;go_ret;exact Fb.of Hc.out hbw.out
  . have hka':k=a.size:=by omega
    subst hka';obtain⟨C,hC⟩: ∃C,Ei (a.size:Int) (b.size:Int)=C:=⟨_,rfl⟩;have cN:=fun w=>Dh (a.size:Int) (b.size:Int) w;rw[hC]at cN;have HN:=qz cN;have Hc:Hid (C=0 ↔ a=b):=by
     show _ ↔ _;rw[<-hC,B3];constructor
     . intro h;have hs:a.size=b.size:=by omega
       have:=ht.out;rw[hs,List.take_of_length_le (by rw[Array.length_toList];exact Nat.le_of_eq hs),List.take_of_length_le (by rw[Array.length_toList];exact Nat.le_refl _)]at this;exact ByteArray.ext (Array.ext' this)
     . rintro rfl;rfl
    clear ht hC cN;go_wp2_with (fail);(with_reducible refine(HN.out _).mono ?_);rintro e w' ⟨rfl,rfl⟩;go_wp2;go_ret;exact Fb.of Hc.out hbw.out
def Ap (p:Prop) (w:World) (e:Ending) (w':World):Prop:= ∃c:Int,e=.returned (.int .i64 c)/\(c=0 ↔ p)/\Below w.heap.size w w'
theorem Ap.of {p:Prop} {w w':World} {c:Int} (h:c=0 ↔ p) (hb:Below w.heap.size w w'):Ap p w (.returned (.int .i64 c)) w':=⟨c,rfl,h,hb⟩
abbrev Vi (k:Int) (b:Bool) (n:Int) (t:ByteArray) (x y:Value):Obj:=.cells #[.int .i64 k,.bool b,.int .i64 n,.string t,x,y] 33
theorem A8 (w:World) (o o':Obj):Below w.heap.size w ((w.alloc o).alloc o'):=((Below.refl _ _).alloc (Nat.le_refl _) _).alloc (by simp) _
theorem Xr (k k':Int) (b b':Bool) (n n':Int) (t t':ByteArray) (x y x' y':Value) (w:World) (h:k≠k') (p:Prop) (hp: ¬p):
 Calls Tryz.prog 64 #[.agg #[.int .i64 k,.bool b,.int .i64 n,.string t,x,y],.agg #[.int .i64 k',.bool b',.int .i64 n',.string t',x',y']] w (Ap p w):=by
 have h1:(k==k')=false:=by simpa using h
 have h2:(k != k')=true:=by simpa using h
 obtain⟨C,hC⟩: ∃C,Ei k k'=C:=⟨_,rfl⟩;have cN:=fun w=>Dh k k' w;rw[hC]at cN;have HN:=qz cN;have Hc:Hid (C=0 ↔ p):=by
  show _ ↔ _;rw[<-hC,B3];exact⟨fun e=>absurd e h,fun e=>absurd e hp⟩
 clear cN hC h hp;go_enter Tryz.func64,Tryz.ntmps64;go_wp2_with (fail);(with_reducible refine(HN.out _).mono ?_);rintro e w' ⟨rfl,rfl⟩;go_wp2;go_ret;exact Ap.of Hc.out (A8 _ _ _)
theorem Xq (b b':Bool) (n n':Int) (t t':ByteArray) (x y x' y':Value) (w:World) (p:Prop) (hp:b=b' ↔ p):
 Calls Tryz.prog 64 #[.agg #[.int .i64 2,.bool b,.int .i64 n,.string t,x,y],.agg #[.int .i64 2,.bool b',.int .i64 n',.string t',x',y']] w (Ap p w):=by
 cases b<;>cases b'
 . have Hp:Hid p:=hp.1 rfl;clear hp;go_enter Tryz.func64,Tryz.ntmps64;go_wp2;go_ret;exact Ap.of ⟨fun _=>Hp.out,fun _=>rfl⟩ (A8 _ _ _)
 . have Hp:Hid (¬p):=fun h=>by cases hp.2 h
   clear hp;go_enter Tryz.func64,Tryz.ntmps64;go_wp2;go_ret;exact Ap.of (c:= -1) ⟨fun h=>absurd h (by decide),fun h=>absurd h Hp.out⟩ (A8 _ _ _)
 . have Hp:Hid (¬p):=fun h=>by cases hp.2 h
   clear hp;go_enter Tryz.func64,Tryz.ntmps64;go_wp2;go_ret;exact Ap.of (c:=1) ⟨fun h=>absurd h (by decide),fun h=>absurd h Hp.out⟩ (A8 _ _ _)
 . have Hp:Hid p:=hp.1 rfl;clear hp;go_enter Tryz.func64,Tryz.ntmps64;go_wp2;go_ret;exact Ap.of ⟨fun _=>Hp.out,fun _=>rfl⟩ (A8 _ _ _)
theorem Zu (b b':Bool) (n n':Int) (t t':ByteArray) (x y x' y':Value) (w:World) (p:Prop) (hp:n=n' ↔ p):
 Calls Tryz.prog 64 #[.agg #[.int .i64 3,.bool b,.int .i64 n,.string t,x,y],.agg #[.int .i64 3,.bool b',.int .i64 n',.string t',x',y']] w (Ap p w):=by
 obtain⟨C,hC⟩: ∃C,Ei n n'=C:=⟨_,rfl⟩;have cN:=fun w=>Dh n n' w;rw[hC]at cN;have HN:=qz cN;have Hc:Hid (C=0 ↔ p):=by
  show _ ↔ _;rw[<-hC,B3];exact hp
 clear cN hC hp;go_enter Tryz.func64,Tryz.ntmps64;go_wp2_with (fail);(with_reducible refine(HN.out _).mono ?_);rintro e w' ⟨rfl,rfl⟩;go_wp2;go_ret;exact Ap.of Hc.out (A8 _ _ _)
theorem Xs (b b':Bool) (n n':Int) (t t':ByteArray) (x y x' y':Value) (w:World) (p:Prop) (h1:t.size<=1000000000) (h2:t'.size<=1000000000) (hp:t=t' ↔ p):
 Calls Tryz.prog 64 #[.agg #[.int .i64 4,.bool b,.int .i64 n,.string t,x,y],.agg #[.int .i64 4,.bool b',.int .i64 n',.string t',x',y']] w (Ap p w):=by
 have HN:=qz (fun w=>Lq t t' w h1 h2);have Hp:=qz hp;clear hp;go_enter Tryz.func64,Tryz.ntmps64;go_wp2_with (fail);(with_reducible refine(HN.out _).mono ?_);rintro e w' ⟨c,rfl,hc,hb⟩;have Hc:=qz hc;clear hc;go_wp2;go_ret;exact Ap.of (Hc.out.trans Hp.out) ((A8 _ _ _).trans (hb.mono (by simp;omega)))
theorem eb:Kt.size=0:=rfl
theorem le_of_lt {a b:ByteArray} (h:Bq b a=true):Zo a b=false:=by
 unfold Zo;have h1:=J8 h;unfold Bq at h1;rw[h1,Bool.false_or]
 cases e:(a.toList==b.toList)with
 |false=>rfl
 |true=>
  have:a=b:=Du (by simpa using e);subst this;rw[Cm]at h;cases h
def K6 (x:List UInt8):Prop:= ∀c y,x=c::y->Uz c=false
def Sw (g:List UInt8):Prop:= ∀c ∈ g,L6 c=true
theorem Rg {s a x:List UInt8} {p:Nat} (h:s.drop p=a++x):s.drop (p+a.length)=x:=by
 rw[<-List.drop_drop,h,List.drop_left]
theorem Xy {s a x:List UInt8} {p:Nat} (h:s.drop p=a++x) (hp:p<=s.length):p+a.length<=s.length:=by
 have:=congrArg List.length h;rw[List.length_drop,List.length_append]at this;omega
theorem X5 {s x:List UInt8} {p:Nat} {c:UInt8} (h:s.drop p=c::x):s[p]? =some c:=by
 have:=List.getElem?_drop (xs:=s) (i:=p) (j:=0);rw[h]at this;simpa using this.symm
theorem Lg: ∀{g:List UInt8},Sw g-> ∀{s x:List UInt8} {p:Nat},s.drop p=g++x->Cg s p=Cg s (p+g.length)
 | [],_,_,_,_,_=>rfl
 |c::g,hg,s,x,p,h=>by
  rw[Wf (X5 h) (hg c (by simp))];have h2:s.drop (p+1)=g++x:=Rg (a:= [c]) (x:=g++x) (by simpa using h);rw[Lg (fun c hc=>hg c (by simp[hc])) h2,List.length_cons]
  congr 1;omega
theorem Uh {f:Nat} {s:List UInt8} {p p':Nat} {d:Int} (h:Cg s p=Cg s p'):Ju f s p d=Ju f s p' d:=by
 cases f with
 |zero=>unfold Ju;rw[h]
 |succ f=>unfold Ju;rw[h]
def Sz (t:List UInt8) (v:Val) (d:Int):Prop:= ∀f s p x,p<=s.length->s.drop p=t++x->K6 x->4*(s.length - p)+1<=f-> ∃q,Ju f s p d=.ok v q/\Cg s q=Cg s (p+t.length)
theorem K6.blanks {g x:List UInt8} (hg:Sw g) (hx:K6 x):K6 (g++x):=by
 intro c y h
 cases g with
 |nil=>exact hx c y h
 |cons a g=>
  have:a=c:=(List.cons.inj h).1;subst this;have:=hg a (by simp);unfold L6 at this;simp only[Bool.or_eq_true,beq_iff_eq]at this;rcases this with((rfl|rfl)|rfl)|rfl<;>decide
theorem K6.of {c:UInt8} {y:List UInt8} (h:Uz c=false):K6 (c::y):=by
 intro c' y' e;rw[<-(List.cons.inj e).1];exact h
theorem K6.nil:K6 []:=by intro c y e;cases e
theorem Sz.ahead {t:List UInt8} {v:Val} {d:Int} (h:Sz t v d) {g:List UInt8} (hg:Sw g):Sz (g++t) v d:=by
 intro f s p x hp hs hx hf;rw[List.append_assoc]at hs;have h1:=Lg hg hs;have h2:=Rg hs;have h3:=Xy hs hp;obtain⟨q,h4,h5⟩:=h f s (p+g.length) x h3 h2 hx (by omega);refine⟨q,by rw[Uh h1];exact h4, ?_⟩;rw[h5,List.length_append]
 congr 1;omega
structure Mem where
 pre:List UInt8
 mid:List UInt8
 txt:List UInt8
 key:ByteArray
 val:Val
end Go.Proofs.YtdbejcbbhomdbaaGreatDoor
