/- Parts: parse.reader: quote, quoted, null, no, yes. Condition: a text of at most 10^9 bytes. -/
import Derived.Test.YtjgfchcldhmjcaaGreatDoorKPp15
import Derived.Test.YtjgfchcldhmjcaaGreatDoorKPp16
set_option maxHeartbeats 20000000
set_option maxRecDepth 100000
namespace Go.Proofs.YtjgfchcldhmjcaaGreatDoor
open Go.RowKit
abbrev Anh:ByteArray:=⟨#[97,114,103,115]⟩
abbrev Anj:ByteArray:=⟨#[110,97,109,101]⟩
abbrev kBy:ByteArray:=⟨#[98,121]⟩
abbrev kIs:ByteArray:=⟨#[105,115]⟩
abbrev An4:ByteArray:=⟨#[119,97,115]⟩
abbrev Ani:ByteArray:=⟨#[102,114,111,109]⟩
abbrev kTo:ByteArray:=⟨#[116,111]⟩
abbrev kDo:ByteArray:=⟨#[100,111]⟩
abbrev kIf:ByteArray:=⟨#[105,102]⟩
abbrev Aoa:ByteArray:=⟨#[112,117,116]⟩
abbrev An8:ByteArray:=⟨#[100,101,108]⟩
abbrev An9:ByteArray:=⟨#[105,110,99]⟩
abbrev An7:ByteArray:=⟨#[99,97,115]⟩
abbrev An6:ByteArray:=⟨#[97,112,112,101,110,100]⟩
abbrev Ano:ByteArray:=⟨#[109,111,118,101]⟩
abbrev Aob:ByteArray:=⟨#[115,101,113]⟩
def Anp (k:Int):ByteArray:=if k=1 then Aoa else if k=2 then An8 else if k=3 then An9 else if k=4 then An7 else if k=5 then An6 else if k=6 then Ano else Aob
def Aim (key:ByteArray) (had:Bool) (was:Val):List (ByteArray×Val):=(Aw,tv key)::(if had then [(An4,was)]else [])
mutual
def An5:Mut->Val
 | .mk k key dst n had was has v l=>ov [(Anh,ov (if k=1\/k=5 then [(Aw,tv key),(Bu,v)]else if k=2 then [(Aw,tv key)]else if k=3 then [(kBy,iv n),(Aw,tv key)]
    else if k=4 then(if has then [(kIs,v)]else [])++Aim key had was
    else if k=6 then [(Ani,tv key),(kTo,tv dst)]
    else(kDo,lv (Alv l))::(if key.toList.isEmpty then []else [(kIf,ov (Aim key had was))]))),(Anj,tv (Anp k))]
def Alv:List Mut->List Val
 | []=> []
 |m::r=>An5 m::Alv r
end
mutual
def Fs:Val->Val->Bool
 | .mk k b n t l o,.mk k' b' n' t' l' o'=>decide (k=k')&&(if k=2 then b==b' else if k=3 then decide (n=n')else if k=4 then decide (t=t')else if k=5 then Abd l l' else if k=6 then Abe o o' else true)
def Abd:List Val->List Val->Bool
 | [], []=>true
 | [],_::_=>false
 |_::_, []=>false
 |x::r,y::s=>Fs x y&&Abd r s
def Abe:List (ByteArray×Val)->List (ByteArray×Val)->Bool
 | [], []=>true
 | [],_::_=>false
 |_::_, []=>false
 |p::r,q::s=>Ym p q&&Abe r s
def Ym:ByteArray×Val->ByteArray×Val->Bool
 |(k,x),(k',y)=>decide (k=k')&&Fs x y
end
theorem Wm: ∀{l:List Val},(∀v ∈ l,Fs v v=true)->Abd l l=true
 | [],_=>by simp[Abd]
 |v::r,h=>by simp only[Abd,h v (by simp),Wm (l:=r) fun x a=>h x (by simp[a]),Bool.and_self]
theorem Wn: ∀{o:List (ByteArray×Val)},(∀m ∈ o,Fs m.2 m.2=true)->Abe o o=true
 | [],_=>by simp[Abe]
 |(k,v)::r,h=>by
  have a:Fs v v=true:=h (k,v) (by simp);simp only[Abe,Ym,a,Wn (o:=r) fun x b=>h x (by simp[b]),Bool.and_self,decide_true]
theorem Agx: ∀v,Fs v v=true:=by
 refine Val.ind ?_;intro k b n t l o a c;simp only[Fs,Wm a,Wn c,decide_true,Bool.true_and,beq_self_eq_true]
 split
 . rfl
 split
 . rfl
 split
 . rfl
 split
 . rfl
 split<;>rfl
mutual
def Aod:Mut->Mut->Bool
 | .mk k key dst n had was has v l,.mk k' key' dst' n' had' was' has' v' l'=>decide (k=k')&&decide (key=key')&&decide (dst=dst')&&decide (n=n')&&(had==had')&&(has==has')&&Fs was was'&&Fs v v'&&Alx l l'
def Alx:List Mut->List Mut->Bool
 | [], []=>true
 | [],_::_=>false
 |_::_, []=>false
 |x::r,y::s=>Aod x y&&Alx r s
end
end Go.Proofs.YtjgfchcldhmjcaaGreatDoor
namespace Go.Proofs.YtjgfchcldhmjcaaGreatDoor
abbrev Chg:=ByteArray×Option Val×Option Val
def D1:List Cq->List Cq->List Chg
 | [], []=> []
 | [],(k,v)::s=>(k,none,some v)::D1 [] s
 |(k,v)::r, []=>(k,some v,none)::D1 r []
 |(a,x)::r,(b,y)::s=>
  if Er a b then(a,some x,none)::D1 r ((b,y)::s)else if Er b a then(b,none,some y)::D1 ((a,x)::r) s
  else if Fs x y then D1 r s else(a,some x,some y)::D1 r s
termination_by a b=>a.length+b.length
theorem Zg (A B:List Cq): ∀X:List Cq,D1 (X++A) (X++B)=D1 A B
 | []=>rfl
 |(k,v)::r=>by
  rw[List.cons_append,List.cons_append,D1,if_neg (by rw[Ds];simp),if_neg (by rw[Ds];simp),if_pos (Agx v),Zg A B r]
theorem Sv {k:ByteArray} {v:Val} {r:List Cq}: ∀{s:List Cq},(∀e ∈ s,Er k e.1=true)->D1 ((k,v)::r) s=(k,some v,none)::D1 r s
 | [],_=>by rw[D1]
 |(b,y)::s,h=>by
  have a:Er k b=true:=h (b,y) (by simp);rw[D1,if_pos a]
theorem Su {k:ByteArray} {v:Val} {s:List Cq}: ∀{r:List Cq},(∀e ∈ r,Er k e.1=true)->D1 r ((k,v)::s)=(k,none,some v)::D1 r s
 | [],_=>by rw[D1]
 |(a,x)::r,h=>by
  have b:Er k a=true:=h (a,x) (by simp);rw[D1,if_neg (by rw[Tm b];simp),if_pos b]
theorem Ab9 {k:ByteArray} {x y:Val} {r s:List Cq}:D1 ((k,x)::r) ((k,y)::s)=if Fs x y then D1 r s else(k,some x,some y)::D1 r s:=by
 rw[D1,if_neg (by rw[Ds];simp),if_neg (by rw[Ds];simp)]
end Go.Proofs.YtjgfchcldhmjcaaGreatDoor
namespace Go.Proofs.YtjgfchcldhmjcaaGreatDoor
open Go.RowKit
def Abx (a b:Int):Int:=if a<b then -1 else if b<a then 1 else 0
theorem Abw {a b:Int}:Abx a b=0 ↔ a=b:=by
 unfold Abx
 split
 . constructor<;>intro h<;>omega
 split
 . constructor<;>intro h<;>omega
 . constructor<;>intro h<;>omega
def Aal (p:Prop) (w:World) (e:Ending) (w':World):Prop:= ∃c:Int,e=.returned (.int .i64 c)/\(c=0 ↔ p)/\Below w.heap.size w w'
theorem Aal.of {p:Prop} {w w':World} {c:Int} (h:c=0 ↔ p) (a:Below w.heap.size w w'):Aal p w (.returned (.int .i64 c)) w':=⟨c,rfl,h,a⟩
theorem Abv (w:World) (o o':Obj):Below w.heap.size w ((w.alloc o).alloc o'):=((Below.refl _ _).alloc (Nat.le_refl _) _).alloc (by simp) _
theorem Ac7: ∀{l l':List Val},Abd l l'=true ↔ l.length=l'.length/\ ∀(j:Nat) x y,l[j]? =some x->l'[j]? =some y->Fs x y=true
 | [], []=>by simp[Abd]
 | [],_::_=>by simp[Abd]
 |_::_, []=>by simp[Abd]
 |a::r,b::s=>by
  simp only[Abd,Bool.and_eq_true,Ac7 (l:=r) (l':=s),List.length_cons,Nat.add_right_cancel_iff];constructor
  . rintro⟨h1,h2,h3⟩;refine⟨h2,fun j x y c d=> ?_⟩
    cases j with
    |zero=>simp only[List.getElem?_cons_zero,Option.some.injEq]at c d;rw[<-c,<-d];exact h1
    |succ j=>simp only[List.getElem?_cons_succ]at c d;exact h3 j x y c d
  . rintro⟨h2,h3⟩;exact⟨h3 0 a b rfl rfl,h2,fun j x y c d=>h3 (j+1) x y (by simpa using c) (by simpa using d)⟩
theorem Aee: ∀{l l':List (ByteArray×Val)},Abe l l'=true ↔ l.length=l'.length/\ ∀(j:Nat) x y,l[j]? =some x->l'[j]? =some y->Ym x y=true
 | [], []=>by simp[Abe]
 | [],_::_=>by simp[Abe]
 |_::_, []=>by simp[Abe]
 |a::r,b::s=>by
  simp only[Abe,Bool.and_eq_true,Aee (l:=r) (l':=s),List.length_cons,Nat.add_right_cancel_iff];constructor
  . rintro⟨h1,h2,h3⟩;refine⟨h2,fun j x y c d=> ?_⟩
    cases j with
    |zero=>simp only[List.getElem?_cons_zero,Option.some.injEq]at c d;rw[<-c,<-d];exact h1
    |succ j=>simp only[List.getElem?_cons_succ]at c d;exact h3 j x y c d
  . rintro⟨h2,h3⟩;exact⟨h3 0 a b rfl rfl,h2,fun j x y c d=>h3 (j+1) x y (by simpa using c) (by simpa using d)⟩
theorem Ur (a b:Int):Lib.compareInt a b=Abx a b:=by
 unfold Lib.compareInt Abx;rfl
theorem J7: ∀a b:List UInt8,Lib.compareBytes a b=0 ↔ a=b
 | [], []=>by simp[Lib.compareBytes]
 | [],_::_=>by simp[Lib.compareBytes]
 |_::_, []=>by simp[Lib.compareBytes]
 |a::x,b::y=>by
  have c:Lib.compareBytes (a::x) (b::y)=if a<b then -1 else if b<a then 1 else Lib.compareBytes x y:=rfl;rw[c]
  split
  . rename_i h;simp only[List.cons.injEq];exact⟨fun e=>absurd e (by decide),fun e=>by rw[e.1]at h;exact absurd h (UInt8.lt_irrefl _)⟩
  . split
    . rename_i h;simp only[List.cons.injEq];exact⟨fun e=>absurd e (by decide),fun e=>by rw[e.1]at h;exact absurd h (UInt8.lt_irrefl _)⟩
    . rename_i d f;rw[J7 x y,List.cons.injEq];have:a=b:=UInt8.le_antisymm (UInt8.not_lt.1 f) (UInt8.not_lt.1 d);simp[this]
theorem Ub (a b:ByteArray) (w:World):Calls Tryz.prog 205 #[.string a,.string b] w fun e w'=> ∃c:Int,e=.returned (.int .i64 c)/\(c=0 ↔ a=b)/\w'=w:=by
 refine(Tryz.strings_Compare a b w).mono ?_;rintro e w' ⟨rfl,rfl⟩;refine⟨_,rfl, ?_,rfl⟩;rw[J7];exact⟨fun h=>ByteArray.ext (Array.ext' h),fun h=>by rw[h]⟩
theorem Tg (a b:Int) (w:World):Calls Tryz.prog 373 #[.int .i64 a,.int .i64 b] w fun e w'=>e=.returned (.int .i64 (Abx a b))/\w'=w:=by
 refine(Tryz.cmp_Compare_int a b w).mono ?_;rintro e w' ⟨rfl,rfl⟩;rw[Ur];exact⟨rfl,rfl⟩
theorem Ts (a:Int) (w:World):Calls Tryz.prog 371 #[.int .i64 a] w fun e w'=>e=.returned (.bool false)/\w'=w:=by
 go_enter Tryz.func371,Tryz.ntmps371;go_wp2;go_ret;exact⟨rfl,rfl⟩
theorem Tr (a:Int) (w:World):Calls Tryz.prog 372 #[.int .i64 a] w fun e w'=>e=.returned (.bool false)/\w'=w:=by
 go_enter Tryz.func372,Tryz.ntmps372;go_wp2;go_ret;exact⟨rfl,rfl⟩
theorem Acu (a b:Int) (w:World):Calls Tryz.prog 360 #[.int .i64 a,.int .i64 b] w fun e w'=>e=.returned (.int .i64 (Abx a b))/\w'=w:=by
 have c:=qz (Ts a w);have d:=qz (Ts b w);unfold Abx;by_cases f:a<b
 . rw[if_pos f];go_enter Tryz.func360,Tryz.ntmps360;go_wp2_with (go_at_call 371;first|(with_reducible refine(c.out).mono ?_;rintro e w' ⟨rfl,rfl⟩)|(with_reducible refine(d.out).mono ?_;rintro e w' ⟨rfl,rfl⟩));go_ret;exact⟨rfl,rfl⟩
 rw[if_neg f];by_cases g:b<a
 . rw[if_pos g];go_enter Tryz.func360,Tryz.ntmps360;go_wp2_with (go_at_call 371;first|(with_reducible refine(c.out).mono ?_;rintro e w' ⟨rfl,rfl⟩)|(with_reducible refine(d.out).mono ?_;rintro e w' ⟨rfl,rfl⟩));go_ret;exact⟨rfl,rfl⟩
 . rw[if_neg g];go_enter Tryz.func360,Tryz.ntmps360;go_wp2_with (go_at_call 371;first|(with_reducible refine(c.out).mono ?_;rintro e w' ⟨rfl,rfl⟩)|(with_reducible refine(d.out).mono ?_;rintro e w' ⟨rfl,rfl⟩));go_ret;exact⟨rfl,rfl⟩
theorem Tl (a b:Int) (w:World):Calls Tryz.prog 362 #[.int .i64 a,.int .i64 b] w fun e w'=>e=.returned (.int .i64 (Abx a b))/\w'=w:=by
 have c:=qz (Tr a w);have d:=qz (Tr b w);unfold Abx;by_cases f:a<b
 . rw[if_pos f];go_enter Tryz.func362,Tryz.ntmps362;go_wp2_with (go_at_call 372;first|(with_reducible refine(c.out).mono ?_;rintro e w' ⟨rfl,rfl⟩)|(with_reducible refine(d.out).mono ?_;rintro e w' ⟨rfl,rfl⟩));go_ret;exact⟨rfl,rfl⟩
 rw[if_neg f];by_cases g:b<a
 . rw[if_pos g];go_enter Tryz.func362,Tryz.ntmps362;go_wp2_with (go_at_call 372;first|(with_reducible refine(c.out).mono ?_;rintro e w' ⟨rfl,rfl⟩)|(with_reducible refine(d.out).mono ?_;rintro e w' ⟨rfl,rfl⟩));go_ret;exact⟨rfl,rfl⟩
 . rw[if_neg g];go_enter Tryz.func362,Tryz.ntmps362;go_wp2_with (go_at_call 372;first|(with_reducible refine(c.out).mono ?_;rintro e w' ⟨rfl,rfl⟩)|(with_reducible refine(d.out).mono ?_;rintro e w' ⟨rfl,rfl⟩));go_ret;exact⟨rfl,rfl⟩
theorem Adh (b:Bool) (w:World):Calls Tryz.prog 361 #[.bool b] w fun e w'=>e=.returned (.int .i64 (if b then 1 else 0))/\w'=w:=by
 cases b
 all_goals
  go_enter Tryz.func361,Tryz.ntmps361;go_wp2;go_ret;exact⟨rfl,rfl⟩
theorem Mw: ∀{l:List (ByteArray×Val)} {last:Option ByteArray} {d:Int},Di l last d=0->Dg l/\ ∀q,last=some q-> ∀m ∈ l,Er q m.1=true
 | [],_,_,_=>⟨List.Pairwise.nil,fun q _ m c=>by cases c⟩
 |(k,v)::r,last,d,h=>by
  simp only[Di]at h;by_cases b:Ob (k,v) last d=0
  . rw[if_pos b]at h;obtain⟨g,f⟩:=Mw h;refine⟨List.pairwise_cons.2 ⟨fun m c=>f k rfl m c,g⟩,fun q i m c=> ?_⟩;subst i;have e:Er q k=true:=by
     simp only[Ob]at b
     split at b
     . split at b
       . cases b
       . rename_i a;unfold leB at a;simp only[Bool.or_eq_true,not_or]at a;rcases Kb q k with t|t|t
         . exact t
         . subst t;exact absurd (by simp) a.2
         . exact absurd t a.1
     . cases b
    rcases List.mem_cons.1 c with rfl|c
    . exact e
    . exact Dq e (f k rfl m c)
  . rw[if_neg b]at h;exact absurd h b
theorem Ue: ∀(l:List Val),Cz l true=Db (l.map Bd)
 | []=>rfl
 | [v]=>by simp[Cz,Db]
 |v::u::r=>by
  have a:=Ue (u::r);simp only[Cz,if_true,List.nil_append,List.map_cons,Db]at a ⊢;rw[<-a];simp
theorem Uf: ∀(l:List (ByteArray×Val)),C0 l true=Db (l.map Po)
 | []=>rfl
 | [v]=>by simp[C0,Db]
 |v::u::r=>by
  have a:=Uf (u::r);simp only[C0,if_true,List.nil_append,List.map_cons,Db]at a ⊢;rw[<-a];simp
def Wa (m:ByteArray×Val):Mem:=⟨[], [],Bd m.2,m.1,m.2⟩
theorem Ac3 (m:ByteArray×Val):(Wa m).text=Po m:=by
 obtain⟨k,v⟩:=m;simp[Wa,Mem.text,Po]
theorem Tp (l:List (ByteArray×Val)):(l.map Wa).map Mem.pair=l:=by
 rw[List.map_map]
 conv=>rhs;rw[<-List.map_id l]
 exact List.map_congr_left fun x _=>rfl
theorem Aae (l:List (ByteArray×Val)):(l.map Wa).map Mem.text=l.map Po:=by
 rw[List.map_map];exact List.map_congr_left fun x _=>Ac3 x
theorem Adz {l:List (ByteArray×Val)} (h:Dg l):Gr l=l:=by
 unfold Gr;rw[Nj (List.Perm.refl l) h];rfl
theorem K6:Lt []:=fun c h=>by cases h
theorem Agq: ∀(v:Val) (d:Int),A0 v d=0->I9 v->F2 (Bd v) v d:=by
 refine Val.ind ?_;intro k b n t l o F I d h q;obtain⟨w,a,p,C,z⟩:=Fm h;obtain⟨E,J,r,s⟩:=My w;obtain⟨D,H⟩:=Amx w;simp only[I9]at q;have c:k≠5->l= []:=fun e=>List.eq_nil_of_length_eq_zero (r.resolve_left e);have f:k≠6->o= []:=fun e=>List.eq_nil_of_length_eq_zero (s.resolve_left e);have g:k≠4->t=Fi:=fun e=>J.resolve_left e;have i:k≠2->b=false:=fun e=>D.resolve_left e;have j:k≠3->n=0:=fun e=>H.resolve_left e;rcases E with rfl|rfl|rfl|rfl|rfl|rfl
 . rw[c (by decide),f (by decide),g (by decide),i (by decide),j (by decide)];have e:Bd (.mk 1 false 0 Fi [] [])= [110,117,108,108]:=by simp[Bd]
   rw[e];exact Agp a
 . rw[c (by decide),f (by decide),g (by decide),j (by decide)]
   cases b
   . exact Adn a
   . exact Agr a
 . rw[c (by decide),f (by decide),g (by decide),i (by decide)];have e:Bd (.mk 3 false n Fi [] [])=Lib.itoa n:=by simp[Bd]
   rw[e];exact Ajw q.1 a
 . rw[c (by decide),f (by decide),i (by decide),j (by decide)];have e:Bd (.mk 4 false 0 t [] [])=B8 t:=by simp[Bd]
   rw[e];exact Ajy p a
 . rw[f (by decide),g (by decide),i (by decide),j (by decide)];have e:Bd (.mk 5 false 0 Fi l [])=91::([]++Db ((l.map fun v=>(Bd v,v)).map (·.1))++ [93]):=by
    simp only[Bd,Ue,List.map_map,List.nil_append];rfl
   rw[e];have key:=Ago a (l:=l.map fun v=>(Bd v,v)) (fun y K=>by
    obtain⟨v,p,rfl⟩:=List.mem_map.1 K;exact F v p (d+1) (Kq C v p) (O5 q.2.1 p)) K6 (fun _=>rfl)
   have B:(l.map fun v=>(Bd v,v)).map (·.2)=l:=by
    rw[List.map_map]
    conv=>rhs;rw[<-List.map_id l]
    exact List.map_congr_left fun x _=>rfl
   rw[B]at key;exact key
 . rw[c (by decide),g (by decide),i (by decide),j (by decide)];have A:=(Mw z).1;have e:Bd (.mk 6 false 0 Fi [] o)=123::([]++Db ((o.map Wa).map Mem.text)++ [125]):=by
    rw[Aae,<-Uf];simp[Bd]
   rw[e];have key:=Ajx a (l:=o.map Wa) (fun m G=>by
    obtain⟨x,u,rfl⟩:=List.mem_map.1 G;obtain⟨L,M⟩:=Tn z x u;exact⟨K6,K6,L,I x u (d+1) M (Aes q.2.2 u)⟩) (by rw[Tp];exact So A) K6 (fun _=>rfl)
   rw[Tp,Adz A]at key;exact key
theorem Aas {t:List UInt8} {v:Val} (h:F2 t v 1):Eh t=.ok v t.length:=by
 obtain⟨q,a,b⟩:=h (4*t.length+4) t 0 [] (Nat.zero_le _) (by simp) Fx.nil (by omega);unfold Eh;rw[a];simp only;rw[b,Nat.zero_add,Ph (Nat.le_refl _),if_neg (by omega)]
theorem Adc {v:Val} (h:A0 v 1=0) (a:I9 v):Eh (Bd v)=.ok v (Bd v).length:=Aas (Agq v 1 h a)
end Go.Proofs.YtjgfchcldhmjcaaGreatDoor
namespace Go.Proofs.YtjgfchcldhmjcaaGreatDoor
def Bo:Val->Int
 | .mk k _ _ _ _ _=>k
def Bx:Val->List (ByteArray×Val)
 | .mk _ _ _ _ _ o=>o
def Ea:Val->ByteArray
 | .mk _ _ _ t _ _=>t
def Q5:Val->List Val
 | .mk _ _ _ _ l _=>l
def G4:Chg->POp
 |(k,_,some v)=>⟨1,k,v⟩
 |(k,_,none)=>⟨2,k,Pv⟩
end Go.Proofs.YtjgfchcldhmjcaaGreatDoor
namespace Go.Proofs.YtjgfchcldhmjcaaGreatDoor
open Go Go.RowKit
theorem Amp {a b:ByteArray} (h:a≠b):(a==b)=false/\(a != b)=true/\(a.toList==b.toList)=false/\(a.toList != b.toList)=true:=by
 have c:(a==b)=false:=by
  obtain⟨a⟩:=a;obtain⟨b⟩:=b;have e:((⟨a⟩:ByteArray)==⟨b⟩)=(a==b):=rfl;rw[e];simpa using h
 have d:(a.toList==b.toList)=false:=by
  rw[ByteArray.toList_eq,ByteArray.toList_eq,beq_eq_false_iff_ne];intro e;exact h (by
   obtain⟨⟨a⟩⟩:=a;obtain⟨⟨b⟩⟩:=b;simpa using e)
 exact⟨c,by rw[bne,c];rfl,d,by rw[bne,d];rfl⟩
theorem Amo (a:ByteArray):(a==a)=true/\(a != a)=false/\(a.toList==a.toList)=true/\(a.toList != a.toList)=false:=by
 have b:(a==a)=true:=by
  obtain⟨a⟩:=a;have e:((⟨a⟩:ByteArray)==⟨a⟩)=(a==a):=rfl;rw[e];simp
 exact⟨b,by rw[bne,b];rfl,by simp,by simp⟩
def Am7 (R g:Nat) (s:ByteArray) (w:World) (r:Rd Val) (e:Ending) (w':World):Prop:=match r with
 | .ok _ q=>e=.returned (.tuple #[])/\Bj R g s q w w'
 | .bad c q=>e=La c q/\w.grownBy w' (some R)
theorem Ol (R g:Nat) (s t:ByteArray) (k:Nat) (v:Val) (w:World) (n:s.size<=1000000000) (m:k<=s.size) (o:t.size<=100) (h:Vj w R g s k):
 Calls Tryz.prog 199 #[.pointer (some ⟨R,0,none⟩),.string t] w (Am7 R g s w (Cp s.data.toList k t.data.toList v)):=by
 have b:(s.extract k s.size).data.toList=s.data.toList.drop k:=by
  rw[Lib.extract_data];exact List.take_of_length_le (by rw[List.length_drop,Ac];omega)
 have a:=fun W=>Tryz.strings_HasPrefix (s.extract k s.size) t W;rw[b]at a;have d:Lib.hasPrefix (s.data.toList.drop k) t.data.toList=t.data.toList.isPrefixOf (s.data.toList.drop k):=rfl;rw[d]at a;clear d b;have p:(0:Int)<=(k:Int):=by omega
 have q:(k:Int)<=(s.size:Int):=by omega
 obtain⟨c0,c1,_,j,l⟩:=h.cells;have H:=qz h;clear h;unfold Cp
 cases hp:t.data.toList.isPrefixOf (s.data.toList.drop k)with
 |true=>
  rw[hp]at a;rw[if_pos rfl,Ac];have i:k+t.size<=s.size:=by
   have:=(List.isPrefixOf_iff_prefix.1 hp).length_le;rw[List.length_drop,Ac,Ac]at this;omega
  clear hp;have c:=qz a;clear a;go_enter Tryz.func199,Tryz.ntmps199;go_wp2;go_quiet ((go_at_call 276;exact Calls.quiet_of_same (c.out _)));go_wp2
  go_end0
  exact⟨rfl,((Bj.refl H.out).drewN _).set _⟩
 |false=>
  rw[hp]at a;rw[if_neg (by decide)];clear hp;have f:=qz (fun W=>Cc (.pointer (some ⟨R,0,none⟩)) 4 k W);have c:=qz a;clear a;go_enter Tryz.func199,Tryz.ntmps199;go_wp2;go_quiet ((go_at_call 276;exact Calls.quiet_of_same (c.out _)));go_wp2_with (fail);(with_reducible refine(f.out _).mono ?_);rintro e w1 ⟨rfl,rfl⟩;exact⟨rfl,rfl,F5 (World.grownBy.refl _ _) _⟩
def Am5 (R g:Nat) (s:ByteArray) (w:World) (r:Rd (List UInt8)) (e:Ending) (w':World):Prop:=match r with
 | .ok a q=>e=.returned (.string ⟨a.toArray⟩)/\Bj R g s q w w'
 | .bad c q=>e=La c q/\w.grownBy w' (some R)
def Gu (R g:Nat) (s:ByteArray) (w:World) (r:Rd Val) (e:Ending) (w':World):Prop:=match r with
 | .ok v q=>(∃cs:List Value,e=.returned (.agg cs.toArray)/\A7 w.heap.size w' (dV v) cs)/\Bj R g s q w w'
 | .bad c q=>e=La c q/\w.grownBy w' (some R)
theorem Bz {b:Nat} {w:World} (k:Int) (c:Bool) (n:Int) (t:ByteArray):A7 b w (dV (.mk k c n t [] [])) [.int .i64 k,.bool c,.int .i64 n,.string t,.slice none 0 0,.slice none 0 0]:=fun a _ _=>by
 refine Fl _ _ ?_;simp only[Ab];exact⟨none,0,none,0,rfl,by simp,by simp⟩
theorem Ag5 {s:List UInt8} {p:Nat} {e:Int} {q:Nat} (a:p<=s.length) (h:Cs s p=.bad e q):1<=e:=by
 have:=Eu a;rw[h]at this;exact this.2.2.1
theorem Ij (R g:Nat) (s:ByteArray) (k:Nat) (w:World) (m:Cj w) (v:s.size<=1000000000) (o:k<=s.size) (h:Vj w R g s k):
 Calls Tryz.prog 200 #[.pointer (some ⟨R,0,none⟩)] w (Am5 R g s w (Cs s.data.toList k)):=by
 have i:=fun(W:World) (j:Below w.heap.size w W)=>Ag6 s k W (m.below j) v o;obtain⟨c0,c1,_,y,z⟩:=h.cells
 cases hr:Cs s.data.toList k with
 |ok a q=>
  rw[hr]at i;simp only[Ql]at i;have x:((0:Int) != 0)=false:=rfl;obtain⟨n,H,r,u⟩:=hid4 i h m hr;clear i h m hr;go_enter Tryz.func200,Tryz.ntmps200;go_wp2
  go_region_held3 (fun W=>W.cell? ⟨R,0,none⟩=some (.string s)/\W.cell? ⟨R,1,none⟩=some (.int .i64 k)) (go_keep) (first|(go_at_call 277;refine(n.out _ (Below.drew (Below.refl _ _))).mono ?_;rintro e w1 ⟨rfl,d⟩;have b:Below w.heap.size w w1:=(Below.drew (Below.refl _ _)).trans d;obtain⟨f,l⟩:=E4 b))
  all_goals
   have j:Bj R g s k w w1:=(Bj.refl H.out).below b;obtain⟨d0,d1,_,d2,d3⟩:=j.2.cells;have p:=qz j;clear j;clear f l d b;go_wp2;go_ret;exact⟨rfl,p.out.set q⟩
 |bad c q=>
  have f:=Ag5 (by rw[Ac];exact o) hr;rw[hr]at i;simp only[Ql]at i;have x:(c != 0)=true:=by rw[bne_iff_ne];omega
  have t:=qz (fun W=>Cc (.pointer (some ⟨R,0,none⟩)) c q W);obtain⟨n,H,r,u⟩:=hid4 i h m hr;clear i h m hr;go_enter Tryz.func200,Tryz.ntmps200;go_wp2
  go_region_held3 (fun W=>W.cell? ⟨R,0,none⟩=some (.string s)/\W.cell? ⟨R,1,none⟩=some (.int .i64 k)) (go_keep) (first|(go_at_call 277;refine(n.out _ (Below.drew (Below.refl _ _))).mono ?_;rintro e w1 ⟨rfl,d⟩;have b:Below w.heap.size w w1:=(Below.drew (Below.refl _ _)).trans d;obtain⟨f,l⟩:=E4 b))
  all_goals
   have j:=qz b;clear f l d b;go_wp2_with (fail);(with_reducible refine(t.out _).mono ?_);rintro e A ⟨rfl,rfl⟩;exact⟨rfl,rfl,P8 _ j.out⟩
theorem Bj.unAlloc {R g q:Nat} {s:ByteArray} {w w1:World} {o:Obj} (h:Bj R g s q (w.alloc o) w1):Bj R g s q w w1:=⟨B2 (Ig (World.grownBy.refl _ _) o) h.1,h.2⟩
theorem Ga {R:Option Nat} {w w1:World} {o:Obj} (h:(w.alloc o).grownBy w1 R):w.grownBy w1 R:=B2 (Ig (World.grownBy.refl _ _) o) h
theorem Bj.many {R g q B:Nat} {s:ByteArray} {w:World} (a:w.heap.size<=B) (b:R<w.heap.size): ∀(vs:List Value) (o:Nat) {w1:World},Bj R g s q w w1->Bj R g s q w (A4 w1 B o vs)
 | [],_,_,h=>h
 |v::vs,o,w1,h=>Bj.many a b vs (o+1) ⟨L4 h.1 ⟨B,o,none⟩ (.inr a) v,Ap.far h.2 (by show R≠B;omega) v⟩
theorem Bj.res {R g q:Nat} {s:ByteArray} {w w1:World} {t:TypeId} {cs:Array Value} (h:Bj R g s q (w.alloc (.cells cs t)) w1) (a:R<w.heap.size):Ap w1 w.heap.size t cs:=(Ap.new w t cs).grown h.1 (by intro e;cases e;omega)
theorem Qm {s:List UInt8} {p q:Nat} {l:List UInt8} {v v':Val} (h:Cp s p l v=.ok v' q):v'=v:=by
 unfold Cp at h
 split at h
 . cases h;rfl
 . cases h
theorem Yb (R g:Nat) (s:ByteArray) (k:Nat) (d:Int) (w:World) (n:Cj w) (u:s.size<=1000000000) (r:k<=s.size) (h:Vj w R g s k):
 Calls Tryz.prog 137 #[.pointer (some ⟨R,0,none⟩),.int .i64 d] w (Gu R g s w ((Cs s.data.toList k).map Abk)):=by
 have p:R<w.heap.size:=Ap.lt h;have i:=Ij R g s k (w.alloc (.cells Al 42)) (n.below (Aa _ _)) u r (Ap.alloc h _)
 cases hr:Cs s.data.toList k with
 |ok a q=>
  rw[hr]at i;simp only[Rd.map];clear hr n h;have l:=qz i;clear i;go_enter Tryz.func137,Tryz.ntmps137;go_wp2_with (fail);(with_reducible refine(l.out).mono ?_);rintro e w1 ⟨rfl,f⟩;have b:=f.res p;have j:=qz f.unAlloc;have t:=b.lt;obtain⟨c0,c1,c2,c3,c4,c5⟩:=At b;have x:=b.frozen;obtain⟨m,v⟩:=hid2 b f;clear b f;dsimp only
  repeat go_step
  have o:=((((((m.out.set_ 0 (.int .i64 4)).set_ 1 (.bool false)).set_ 2 (.int .i64 0)).set_ 3 (.string ⟨a.toArray⟩)).set_ 4 (.slice none 0 0)).set_ 5 (.slice none 0 0));exact bodyPost_ret (Br rfl rfl o) rfl ⟨⟨_,rfl,Bz 4 false 0 _⟩,Bj.many (Nat.le_refl _) p [.int .i64 4,.bool false,.int .i64 0,.string ⟨a.toArray⟩,.slice none 0 0,.slice none 0 0] 0 j.out⟩
 |bad c q=>
  rw[hr]at i;simp only[Rd.map];clear hr n h;have l:=qz i;clear i;go_enter Tryz.func137,Tryz.ntmps137;go_wp2_with (fail);(with_reducible refine(l.out).mono ?_);rintro e w1 ⟨rfl,f⟩;exact⟨rfl,rfl,Ga f⟩
theorem Ac6 (R g:Nat) (s:ByteArray) (k:Nat) (d:Int) (w:World) (t:s.size<=1000000000) (p:k<=s.size) (h:Vj w R g s k):
 Calls Tryz.prog 134 #[.pointer (some ⟨R,0,none⟩),.int .i64 d] w (Gu R g s w (Cp s.data.toList k [110,117,108,108] L7)):=by
 have o:R<w.heap.size:=Ap.lt h;have f:=Ol R g s ⟨#[110,117,108,108]⟩ k L7 (w.alloc (.cells Al 42)) t p (by decide) (Ap.alloc h _);dsimp only at f
 cases hr:Cp s.data.toList k [110,117,108,108] L7 with
 |ok a q=>
  obtain rfl:=Qm hr;rw[hr]at f;clear hr h;have l:=qz f;clear f;go_enter Tryz.func134,Tryz.ntmps134;go_wp2_with (fail);(with_reducible refine(l.out).mono ?_);rintro e w1 ⟨rfl,i⟩;have b:=i.res o;have j:=qz i.unAlloc;have r:=b.lt;obtain⟨c0,c1,c2,c3,c4,c5⟩:=At b;have v:=b.frozen;obtain⟨m,u⟩:=hid2 b i;clear b i;dsimp only
  repeat go_step
  have n:=((((((m.out.set_ 0 (.int .i64 1)).set_ 1 (.bool false)).set_ 2 (.int .i64 0)).set_ 3 (.string ⟨#[]⟩)).set_ 4 (.slice none 0 0)).set_ 5 (.slice none 0 0));exact bodyPost_ret (Br rfl rfl n) rfl ⟨⟨_,rfl,Bz 1 false 0 _⟩,Bj.many (Nat.le_refl _) o [.int .i64 1,.bool false,.int .i64 0,.string ⟨#[]⟩,.slice none 0 0,.slice none 0 0] 0 j.out⟩
 |bad c q=>
  rw[hr]at f;clear hr h;have l:=qz f;clear f;go_enter Tryz.func134,Tryz.ntmps134;go_wp2_with (fail);(with_reducible refine(l.out).mono ?_);rintro e w1 ⟨rfl,i⟩;exact⟨rfl,rfl,Ga i⟩
theorem Ahc (R g:Nat) (s:ByteArray) (k:Nat) (d:Int) (w:World) (t:s.size<=1000000000) (p:k<=s.size) (h:Vj w R g s k):
 Calls Tryz.prog 136 #[.pointer (some ⟨R,0,none⟩),.int .i64 d] w (Gu R g s w (Cp s.data.toList k [116,114,117,101] (G9 true))):=by
 have o:R<w.heap.size:=Ap.lt h;have f:=Ol R g s ⟨#[116,114,117,101]⟩ k (G9 true) (w.alloc (.cells Al 42)) t p (by decide) (Ap.alloc h _);dsimp only at f
 cases hr:Cp s.data.toList k [116,114,117,101] (G9 true)with
 |ok a q=>
  obtain rfl:=Qm hr;rw[hr]at f;clear hr h;have l:=qz f;clear f;go_enter Tryz.func136,Tryz.ntmps136;go_wp2_with (fail);(with_reducible refine(l.out).mono ?_);rintro e w1 ⟨rfl,i⟩;have b:=i.res o;have j:=qz i.unAlloc;have r:=b.lt;obtain⟨c0,c1,c2,c3,c4,c5⟩:=At b;have v:=b.frozen;obtain⟨m,u⟩:=hid2 b i;clear b i;dsimp only
  repeat go_step
  have n:=((((((m.out.set_ 0 (.int .i64 2)).set_ 1 (.bool true)).set_ 2 (.int .i64 0)).set_ 3 (.string ⟨#[]⟩)).set_ 4 (.slice none 0 0)).set_ 5 (.slice none 0 0));exact bodyPost_ret (Br rfl rfl n) rfl ⟨⟨_,rfl,Bz 2 true 0 _⟩,Bj.many (Nat.le_refl _) o [.int .i64 2,.bool true,.int .i64 0,.string ⟨#[]⟩,.slice none 0 0,.slice none 0 0] 0 j.out⟩
 |bad c q=>
  rw[hr]at f;clear hr h;have l:=qz f;clear f;go_enter Tryz.func136,Tryz.ntmps136;go_wp2_with (fail);(with_reducible refine(l.out).mono ?_);rintro e w1 ⟨rfl,i⟩;exact⟨rfl,rfl,Ga i⟩
theorem Ajc (R g:Nat) (s:ByteArray) (k:Nat) (d:Int) (w:World) (t:s.size<=1000000000) (p:k<=s.size) (h:Vj w R g s k):
 Calls Tryz.prog 135 #[.pointer (some ⟨R,0,none⟩),.int .i64 d] w (Gu R g s w (Cp s.data.toList k [102,97,108,115,101] (G9 false))):=by
 have o:R<w.heap.size:=Ap.lt h;have f:=Ol R g s ⟨#[102,97,108,115,101]⟩ k (G9 false) (w.alloc (.cells Al 42)) t p (by decide) (Ap.alloc h _);dsimp only at f
 cases hr:Cp s.data.toList k [102,97,108,115,101] (G9 false)with
 |ok a q=>
  obtain rfl:=Qm hr;rw[hr]at f;clear hr h;have l:=qz f;clear f;go_enter Tryz.func135,Tryz.ntmps135;go_wp2_with (fail);(with_reducible refine(l.out).mono ?_);rintro e w1 ⟨rfl,i⟩;have b:=i.res o;have j:=qz i.unAlloc;have r:=b.lt;obtain⟨c0,c1,c2,c3,c4,c5⟩:=At b;have v:=b.frozen;obtain⟨m,u⟩:=hid2 b i;clear b i;dsimp only
  repeat go_step
  have n:=((((((m.out.set_ 0 (.int .i64 2)).set_ 1 (.bool false)).set_ 2 (.int .i64 0)).set_ 3 (.string ⟨#[]⟩)).set_ 4 (.slice none 0 0)).set_ 5 (.slice none 0 0));exact bodyPost_ret (Br rfl rfl n) rfl ⟨⟨_,rfl,Bz 2 false 0 _⟩,Bj.many (Nat.le_refl _) o [.int .i64 2,.bool false,.int .i64 0,.string ⟨#[]⟩,.slice none 0 0,.slice none 0 0] 0 j.out⟩
 |bad c q=>
  rw[hr]at f;clear hr h;have l:=qz f;clear f;go_enter Tryz.func135,Tryz.ntmps135;go_wp2_with (fail);(with_reducible refine(l.out).mono ?_);rintro e w1 ⟨rfl,i⟩;exact⟨rfl,rfl,Ga i⟩
end Go.Proofs.YtjgfchcldhmjcaaGreatDoor
