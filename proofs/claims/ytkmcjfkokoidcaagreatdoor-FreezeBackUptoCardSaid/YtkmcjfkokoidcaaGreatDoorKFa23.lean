/- Parts: Pointers to nodes, whether they are the same. No condition. -/
import Derived.LaidEqlPtr
import Derived.Test.YtkmcjfkokoidcaaGreatDoorKFa19
import Derived.Test.YtkmcjfkokoidcaaGreatDoorKFa20
set_option maxHeartbeats 20000000
set_option maxRecDepth 100000
namespace Go.Proofs.YtkmcjfkokoidcaaGreatDoor
open Go Go.RowKit
theorem Aj.nxt (w:World) (o:Obj) (t:TypeId) (cs:Array Value):Aj ((w.alloc o).alloc (.cells cs t)) (w.heap.size+1) t cs:=by
 have:=Aj.new (w.alloc o) t cs
 rwa [World.size_alloc]at this
theorem KB.put {S:Nat->Prop} (w:World) {k:Nat} (hk:S k) (o:Obj):KB S w (w.putObj k o):=⟨rfl,rfl,rfl,by simp[World.putObj],fun j _ h2=>World.putObj_heap_other (fun e=>h2 (e▸hk))⟩
inductive Mut where
 |mk (k:Int) (key dst:ByteArray) (n:Int) (had:Bool) (was:Val) (has:Bool) (v:Val) (l:List Mut)
theorem Mut.ind {p:Mut->Prop} (h: ∀k key dst n had was has v l,(∀m ∈ l,p m)->p (.mk k key dst n had was has v l)): ∀m,p m:=by
 intro m;refine Mut.rec (motive_1:=p) (motive_2:=fun l=> ∀m ∈ l,p m) ?_ ?_ ?_ m
 . intro k key dst n had was has v l hl;exact h _ _ _ _ _ _ _ _ _ hl
 . intro m hm
   cases hm
 . intro m r hm hr x hx;rcases List.mem_cons.1 hx with rfl|hx
   . exact hm
   . exact hr x hx
mutual
def dM:Mut->D
 | .mk k key dst n had was has v l=> .agg [.leaf (.int .i64 k),.leaf (.string key),.leaf (.string dst),.leaf (.int .i64 n),.leaf (.bool had),dV was,.leaf (.bool has),dV v,.row 19 (dMs l)]
def dMs:List Mut->List D
 | []=> []
 |m::r=>dM m::dMs r
end
mutual
def Aon:Mut->Nat
 | .mk _ key dst _ _ was _ v l=>8+key.size+dst.size+was.bulk+v.bulk+Ajo l
def Ajo:List Mut->Nat
 | []=>0
 |m::r=>Aon m+Ajo r
end
mutual
def inM:Mut->Prop
 | .mk _ _ _ n _ was _ v l=>(-9223372036854775808<=n/\n<=9223372036854775807)/\J9 was/\J9 v/\Aoo l
def Aoo:List Mut->Prop
 | []=>True
 |m::r=>inM m/\Aoo r
end
mutual
def Ao2:Mut->Nat
 | .mk _ _ _ _ _ _ _ _ l=>1+Alu l
def Alu:List Mut->Nat
 | []=>0
 |m::r=>Ao2 m+Alu r
end
def Aol (k:Int) (dst:ByteArray) (n:Int) (had wasZ has valZ:Bool) (ln:Nat):Bool:=
 decide (1<=k)&&decide (k<=7)&&(decide (k=6)||dst.toList.isEmpty)&&(decide (k=3)||decide (n=0))&&(decide (k=4)||decide (k=7)|| !had)&&(decide (k=4)|| !has)&&(had||wasZ)&&(decide (k=1)||decide (k=5)||(decide (k=4)&&has)||valZ)&&(decide (k=7)||decide (ln=0))
def Alt (s:ByteArray):Bool:=decide (s.size<=64)&&A9 s
def An6 (k:Int) (key dst:ByteArray) (had:Bool):Bool:=if k=6 then Alt key&&Alt dst else if k=7/\key.toList.isEmpty=true then !had else Ze key
mutual
def Aoy:Mut->Int->Int
 | .mk k key dst n had was has v l,d=>
   if Aol k dst n had (Anl was) has (Anl v) l.length=false then 9 else if 6<d then 5 else if An6 k key dst had=false then 8
   else if had=true/\Gu was≠0 then Gu was else if(has||decide (k=1)||decide (k=5))=true/\Gu v≠0 then Gu v else Anh l (d+1)
def Anh:List Mut->Int->Int
 | [],_=>0
 |m::r,d=>if Aoy m d=0 then Anh r d else Aoy m d
end
structure Num where
 id:Int
 m:Mut
abbrev Aot:ByteArray:=⟨#[97,114,103,115]⟩
abbrev Aov:ByteArray:=⟨#[110,97,109,101]⟩
abbrev kBy:ByteArray:=⟨#[98,121]⟩
abbrev kIs:ByteArray:=⟨#[105,115]⟩
abbrev Apg:ByteArray:=⟨#[119,97,115]⟩
abbrev Aou:ByteArray:=⟨#[102,114,111,109]⟩
abbrev kTo:ByteArray:=⟨#[116,111]⟩
abbrev kDo:ByteArray:=⟨#[100,111]⟩
abbrev kIf:ByteArray:=⟨#[105,102]⟩
abbrev Apm:ByteArray:=⟨#[112,117,116]⟩
abbrev Apk:ByteArray:=⟨#[100,101,108]⟩
abbrev Apl:ByteArray:=⟨#[105,110,99]⟩
abbrev Apj:ByteArray:=⟨#[99,97,115]⟩
abbrev Api:ByteArray:=⟨#[97,112,112,101,110,100]⟩
abbrev Aoz:ByteArray:=⟨#[109,111,118,101]⟩
abbrev Apn:ByteArray:=⟨#[115,101,113]⟩
def Ao0 (k:Int):ByteArray:=if k=1 then Apm else if k=2 then Apk else if k=3 then Apl else if k=4 then Apj else if k=5 then Api else if k=6 then Aoz else Apn
def Akb (key:ByteArray) (had:Bool) (was:Val):List (ByteArray×Val):=(Ams,tv key)::(if had then [(Apg,was)]else [])
mutual
def Aph:Mut->Val
 | .mk k key dst n had was has v l=>ov [(Aot,ov (if k=1\/k=5 then [(Ams,tv key),(Apf,v)]else if k=2 then [(Ams,tv key)]else if k=3 then [(kBy,iv n),(Ams,tv key)]
    else if k=4 then(if has then [(kIs,v)]else [])++Akb key had was
    else if k=6 then [(Aou,tv key),(kTo,tv dst)]
    else(kDo,lv (Ani l))::(if key.toList.isEmpty then []else [(kIf,ov (Akb key had was))]))),(Aov,tv (Ao0 k))]
def Ani:List Mut->List Val
 | []=> []
 |m::r=>Aph m::Ani r
end
theorem Akx {v:Val} {d:Int} (h:Gu v=0) (hd:d<=48):Au v d=0:=by
 obtain⟨f1,f2,_⟩:=O6 h;exact Ab4 v _ 1 f1 (by omega)
theorem Afj (s:ByteArray) (w:World) (hs:s.size<=1000000000):Calls Tryz.prog 63 #[.string s] w fun e w'=>e=.returned (.int .i64 (Oe s))/\w=w':=by
 obtain⟨B,hB⟩: ∃B,A9 s=B:=⟨_,rfl⟩;have HC:=qz (fun W=>Cw hB W hs);have e0:s.toList.isEmpty=decide (s.size=0):=by
  rw[Lib.toList_data,Lib.size_eq];cases s.data.toList<;>simp
 have hE:Oe s=if s.size=0 then 8 else if 64<s.size then 6 else if B then 0 else 3:=by
  unfold Oe;rw[e0,hB];simp
 clear hB e0;by_cases h0:s.size=0
 . rw[if_pos h0]at hE;have t0:((s.size:Int)==0)=true:=by rw[beq_iff_eq];omega
   have HE:=qz hE;clear hE;clear h0;go_enter Tryz.func63,Tryz.ntmps63;go_wp2;go_ret;exact⟨by rw[HE.out];rfl,rfl⟩
 rw[if_neg h0]at hE;have t0:((s.size:Int)==0)=false:=by rw[beq_eq_false_iff_ne];omega
 by_cases h1:64<s.size
 . rw[if_pos h1]at hE;have t1:(64:Int)<(s.size:Int):=by omega
   have HE:=qz hE;clear hE;clear h0 h1;go_enter Tryz.func63,Tryz.ntmps63;go_wp2;go_ret;exact⟨by rw[HE.out];rfl,rfl⟩
 rw[if_neg h1]at hE;have t1:(s.size:Int)<=64:=by omega
 have HE:=qz hE;clear hE;clear h0 h1
 cases B with
 |true=>
  go_enter Tryz.func63,Tryz.ntmps63;go_wp2_with (go_at_call 112;(with_reducible refine(HC.out _).mono ?_);rintro e w2 ⟨rfl,rfl⟩);go_ret;exact⟨by rw[HE.out];rfl,rfl⟩
 |false=>
  go_enter Tryz.func63,Tryz.ntmps63;go_wp2_with (go_at_call 112;(with_reducible refine(HC.out _).mono ?_);rintro e w2 ⟨rfl,rfl⟩);go_ret;exact⟨by rw[HE.out];rfl,rfl⟩
abbrev Lr:Val:=.mk 0 false 0 ⟨#[]⟩ [] []
theorem O9 (w:World) (B:Nat):Ac w B Lr [.int .i64 0,.bool false,.int .i64 0,.string ⟨#[]⟩,.slice none 0 0,.slice none 0 0]:=by
 simp only[Ac];exact⟨none,0,none,0,rfl,by simp,by simp⟩
mutual
def Dj:Val->Val->Bool
 | .mk k b n t l o,.mk k' b' n' t' l' o'=>decide (k=k')&&(if k=2 then b==b' else if k=3 then decide (n=n')else if k=4 then decide (t=t')else if k=5 then Lc l l' else if k=6 then Kn o o' else true)
def Lc:List Val->List Val->Bool
 | [], []=>true
 | [],_::_=>false
 |_::_, []=>false
 |x::r,y::s=>Dj x y&&Lc r s
def Kn:List (ByteArray×Val)->List (ByteArray×Val)->Bool
 | [], []=>true
 | [],_::_=>false
 |_::_, []=>false
 |p::r,q::s=>Nk p q&&Kn r s
def Nk:ByteArray×Val->ByteArray×Val->Bool
 |(k,x),(k',y)=>decide (k=k')&&Dj x y
end
theorem Xy: ∀{l:List Val},(∀v ∈ l,Dj v v=true)->Lc l l=true
 | [],_=>by simp[Lc]
 |v::r,h=>by simp only[Lc,h v (by simp),Xy (l:=r) fun x hx=>h x (by simp[hx]),Bool.and_self]
theorem Xz: ∀{o:List (ByteArray×Val)},(∀m ∈ o,Dj m.2 m.2=true)->Kn o o=true
 | [],_=>by simp[Kn]
 |(k,v)::r,h=>by
  have h1:Dj v v=true:=h (k,v) (by simp);simp only[Kn,Nk,h1,Xz (o:=r) fun x hx=>h x (by simp[hx]),Bool.and_self,decide_true]
theorem X0: ∀v,Dj v v=true:=by
 refine Val.ind ?_;intro k b n t l o hl ho;simp only[Dj,Xy hl,Xz ho,decide_true,Bool.true_and,beq_self_eq_true]
 split
 . rfl
 split
 . rfl
 split
 . rfl
 split
 . rfl
 split<;>rfl
def Al6 (a:Val):Prop:= ∀(b:Val) (d d':Int),Au a d=0->Au b d'=0->Dj a b=true->a=b
theorem Agy: ∀{l l':List Val},(∀v ∈ l,Al6 v)-> ∀{d d':Int},C2 l d=0->C2 l' d'=0->Lc l l'=true->l=l'
 | [], [],_,_,_,_,_,_=>rfl
 | [],_::_,_,_,_,_,_,h=>by simp[Lc]at h
 |_::_, [],_,_,_,_,_,h=>by simp[Lc]at h
 |x::r,y::s,hc,d,d',h1,h2,h=>by
  simp only[Lc,Bool.and_eq_true]at h;have hx:Au x d=0/\C2 r d=0:=by
   simp only[C2]at h1;by_cases e:Au x d=0
   . rw[if_pos e]at h1;exact⟨e,h1⟩
   . rw[if_neg e]at h1;exact absurd h1 e
  have hy:Au y d'=0/\C2 s d'=0:=by
   simp only[C2]at h2;by_cases e:Au y d'=0
   . rw[if_pos e]at h2;exact⟨e,h2⟩
   . rw[if_neg e]at h2;exact absurd h2 e
  rw[hc x (by simp) y d d' hx.1 hy.1 h.1,Agy (fun v hv=>hc v (by simp[hv])) hx.2 hy.2 h.2]
theorem Agz: ∀{l l':List (ByteArray×Val)},(∀m ∈ l,Al6 m.2)-> ∀{d d':Int},(∀m ∈ l,A9 m.1=true/\Au m.2 d=0)->(∀m ∈ l',A9 m.1=true/\Au m.2 d'=0)->Kn l l'=true->l=l'
 | [], [],_,_,_,_,_,_=>rfl
 | [],_::_,_,_,_,_,_,h=>by simp[Kn]at h
 |_::_, [],_,_,_,_,_,h=>by simp[Kn]at h
 |(k,x)::r,(k',y)::s,hc,d,d',h1,h2,h=>by
  simp only[Kn,Nk,Bool.and_eq_true,decide_eq_true_eq]at h;have hx:=(h1 (k,x) (by simp)).2;have hy:=(h2 (k',y) (by simp)).2;have hcx:Al6 x:=hc (k,x) (by simp);rw[h.1.1,hcx y d d' hx hy h.1.2,Agz (fun m hm=>hc m (by simp[hm])) (fun m hm=>h1 m (by simp[hm])) (fun m hm=>h2 m (by simp[hm])) h.2]
theorem Apr: ∀a,Al6 a:=by
 refine Val.ind ?_;intro k b n t l o hl ho v d d' hm hm' e;obtain⟨k',b',n',t',l',o'⟩:=v;obtain⟨hodd,_,hvt,hmL,hmO⟩:=Em hm;obtain⟨hodd',_,hvt',hmL',hmO'⟩:=Em hm';simp only[Dj,Bool.and_eq_true,decide_eq_true_eq]at e;obtain⟨hkk,e⟩:=e;subst hkk;obtain⟨hk,p1,p2,p3⟩:=Fa hodd;obtain⟨_,q1,q2,q3⟩:=Fa hodd';obtain⟨p4,p5⟩:=Rc hodd;obtain⟨q4,q5⟩:=Rc hodd';have nl: ∀{α:Type} {l:List α},l.length=0->l= []:=fun h=>List.length_eq_zero_iff.1 h;have hb:b=b':=by
  by_cases c:k=2
  . rw[if_pos c]at e;simpa using e
  . rw[p4.resolve_left c,q4.resolve_left c]
 have hn:n=n':=by
  by_cases c:k=3
  . rw[if_neg (by omega),if_pos c]at e;simpa using e
  . rw[p5.resolve_left c,q5.resolve_left c]
 have ht:t=t':=by
  by_cases c:k=4
  . rw[if_neg (by omega),if_neg (by omega),if_pos c]at e;simpa using e
  . rw[p1.resolve_left c,q1.resolve_left c]
 have hll:l=l':=by
  by_cases c:k=5
  . rw[if_neg (by omega),if_neg (by omega),if_neg (by omega),if_pos c]at e;exact Agy hl hmL hmL' e
  . rw[nl (p2.resolve_left c),nl (q2.resolve_left c)]
 have hoo:o=o':=by
  by_cases c:k=6
  . rw[if_neg (by omega),if_neg (by omega),if_neg (by omega),if_neg (by omega),if_pos c]at e;exact Agz ho (Kc hmO) (Kc hmO') e
  . rw[nl (p3.resolve_left c),nl (q3.resolve_left c)]
 rw[hb,hn,ht,hll,hoo]
theorem Alr {a b:Val} {d d':Int} (ha:Au a d=0) (hb:Au b d'=0):Dj a b=true ↔ a=b:=⟨Apr a b d d' ha hb,fun e=>e▸X0 a⟩
mutual
def Aps:Mut->Mut->Bool
 | .mk k key dst n had was has v l,.mk k' key' dst' n' had' was' has' v' l'=>decide (k=k')&&decide (key=key')&&decide (dst=dst')&&decide (n=n')&&(had==had')&&(has==has')&&Dj was was'&&Dj v v'&&Anj l l'
def Anj:List Mut->List Mut->Bool
 | [], []=>true
 | [],_::_=>false
 |_::_, []=>false
 |x::r,y::s=>Aps x y&&Anj r s
end
end Go.Proofs.YtkmcjfkokoidcaaGreatDoor
namespace Go.Proofs.YtkmcjfkokoidcaaGreatDoor
theorem Acq {k:ByteArray} {v:Val} {P A:List A5} (hP: ∀e ∈ P,Dp e.1 k=true) (hA: ∀e ∈ A,Dp k e.1=true):Cf k v (P++A)=P++(k,v)::A:=by
 rw[Qh hP,Xt hA]
def En:List A5->List A5->Bool
 | [], []=>true
 | [],_::_=>false
 |_::_, []=>false
 |(a,x)::r,(b,y)::s=>decide (a=b)&&(Dj x y&&En r s)
theorem Gp: ∀l:List A5,En l l=true
 | []=>rfl
 |(a,x)::r=>by simp only[En,X0,Gp r,decide_true,Bool.and_self]
end Go.Proofs.YtkmcjfkokoidcaaGreatDoor
namespace Go.Proofs.YtkmcjfkokoidcaaGreatDoor
open Go Go.RowKit
section
variable {P:Program} {l n:Nat} {ops:Array Oper} {Q:Exit->Act->World->Prop}
theorem Ain {row:String} {args:Array Value} {w:World} {R:Value->World->Prop} (h:Rows P row args w R):RowsIn (Fence.wide.inRound l) n P row args w R:=fun c cs _=>
 let ⟨v,w',r,s⟩:=h c cs
 ⟨v,w',r,stepsIn_wide.2 s⟩
theorem Afa {o:Oper} {a:Act} {w:World} {K:Act->World->Prop} (hd: ∀c,o.op≠ .defer c) (h:o.wp P a w K Q):o.wpIn (Fence.wide.inRound l) n P a w K Q:=by
 refine⟨fun _ _=>trivial, ?_⟩;rw[Oper.semAt_eq _ _ _ hd];unfold Oper.wp at h;generalize (execOp a.eval o).run P w=r at h
 cases r with
 |ok x w'=>cases x<;>simp only[Oper.upon,Oper.uponIn]at h ⊢ <;>first|exact h|exact⟨fun hh=>(by simp[Fence.wide]at hh),CallsIn.inRound l (callsIn_wide.2 h)⟩|exact⟨fun hh=>(by simp[Fence.wide]at hh),Ain h⟩|exact h.elim
 |halt x w'=>cases x<;>simp only[Oper.upon,Oper.uponIn]at h ⊢ <;>exact h
theorem N6 (hd: ∀(i:Nat) o,ops[i]? =some o-> ∀c,o.op≠ .defer c) (hQ: ¬LetsOut Q): ∀(is:List Nat) (a:Act) (w:World),wpOps P ops Q is a w->wpOpsIn (Fence.wide.inRound l) n P ops Q is a w
 | [],_,_,h=>h
 |i::rest,a,w,h=>by
  simp only[wpOps]at h;simp only[wpOpsIn]
  cases ho:ops[i]? with
  |none=>
   simp only[ho]at h ⊢;exact N6 hd hQ rest a w h
  |some o=>
   simp only[ho]at h ⊢;by_cases hw:Region.wanted o (yielded ops a.tmps)=true
   . simp only[hw,if_true]at h ⊢;rcases h with h|h
     . exact Afa (hd i o ho) (Oper.wp_mono (fun a' w' h'=>N6 hd hQ rest a' w' h') h)
     . exact absurd h.2 hQ
   . simp only[hw]at h ⊢;exact⟨fun _ _=>trivial,N6 hd hQ rest _ w h⟩
theorem S4 {id:Nat} {a:Act} {w:World} {S:World->Prop} (hm:P.follows .mixedOrders=true) (hd:(ops.toList.all fun o=>match o.op with| .defer _=>false|_=>true)=true) (hQ: ¬LetsOut Q) (hS:S w.drew)
 (h:S w.drew->wpAnyH P .any ops Q S ops.size (Array.replicate ops.size false) a w.drew):(Code.region id ops true).wpIn (Fence.wide.inRound l) n P Q a w:=
 wpIn_region_draw fun t=>by
  simp only[Region.schedule,hm,Bool.true_or,if_true];refine N6 (fun i o ho c hc=> ?_) hQ _ _ _ (wpAny_sound ops.size t _ a _ (wpAny_of_held _ _ _ _ (h hS)));have h1:=List.all_eq_true.1 hd o (by rw[<-Array.getElem?_toList]at ho;exact List.mem_of_getElem? ho);rw[hc]at h1
  cases h1
def noP (Q:Exit->Act->World->Prop) (e:Exit) (a:Act) (w:World):Prop:=
 match e with
 | .panic _=>False
 | .normal=>Q .normal a w
 | .ret=>Q .ret a w
 | .exit i=>Q (.exit i) a w
 | .goto i=>Q (.goto i) a w
 | .outgrown=>Q .outgrown a w
theorem Qt {id:Nat} {a:Act} {w:World} {S:World->Prop} (hm:P.follows .mixedOrders=true) (hS:S w.drew) (h:S w.drew->wpAnyH P .any ops (noP Q) S ops.size (Array.replicate ops.size false) a w.drew):(Code.region id ops true).wpIn Fence.wide n P Q a w:=
 wpIn_mono (wpIn_wide.2 (wp_region_held_drew hm hS h)) fun e a w hq=>by
  cases e with
  |panic c=>exact hq.elim
  |normal=>exact hq
  |ret=>exact hq
  |exit i=>exact hq
  |goto i=>exact hq
  |outgrown=>exact hq
end
end Go.Proofs.YtkmcjfkokoidcaaGreatDoor
namespace Go.Proofs.YtkmcjfkokoidcaaGreatDoor
def Di (k:ByteArray):List A5->Option Val
 | []=>none
 |(a,x)::r=>if a=k then some x else Di k r
theorem W8 {k:ByteArray}: ∀{l:List A5},(∀e ∈ l,e.1≠k)->Di k l=none
 | [],_=>rfl
 |(a,x)::r,h=>by
  have h1:a≠k:=h (a,x) (by simp);rw[Di,if_neg h1,W8 fun e he=>h e (List.mem_cons_of_mem _ he)]
theorem T1 {q k:ByteArray} {v:Val}: ∀{l:List A5},Di q (Cf k v l)=if k=q then some v else Di q l
 | []=>by simp[Cf,Di]
 |(a,x)::r=>by
  simp only[Cf];by_cases h1:Dp a k=true
  . rw[if_pos h1,Di,T1,Di];by_cases h2:a=q
    . subst h2;rw[if_pos rfl,if_pos rfl,if_neg (Ab2 h1).symm]
    . rw[if_neg h2,if_neg h2]
  rw[if_neg h1];by_cases h2:a=k
  . subst h2;rw[if_pos rfl,Di,Di];by_cases h3:a=q
    . rw[if_pos h3,if_pos h3]
    . rw[if_neg h3,if_neg h3,if_neg h3]
  . rw[if_neg h2,Di]
theorem Abo {q k:ByteArray}: ∀{l:List A5},Di q (C1 k l)=if k=q then none else Di q l
 | []=>by simp[C1,Di]
 |(a,x)::r=>by
  have ih:=Abo (q:=q) (k:=k) (l:=r);by_cases h1:a=k
  . subst h1;have:C1 a ((a,x)::r)=C1 a r:=by simp[C1]
    rw[this,ih,Di];by_cases h2:a=q
    . rw[if_pos h2,if_pos h2]
    . rw[if_neg h2,if_neg h2,if_neg h2]
  . have:C1 k ((a,x)::r)=(a,x)::C1 k r:=by simp[C1,h1]
    rw[this,Di,ih,Di];by_cases h2:a=q
    . subst h2;rw[if_pos rfl,if_pos rfl,if_neg (fun e=>h1 e.symm)]
    . rw[if_neg h2,if_neg h2]
theorem Nz {k:ByteArray} {l:List A5} (h: ∀e ∈ l,Dp k e.1=true):Di k l=none:=W8 fun e he=>(Ab2 (h e he)).symm
theorem Xa {a q:ByteArray} {x:Val} {l:List A5} (h:a≠q):Di q ((a,x)::l)=Di q l:=by rw[Di,if_neg h]
end Go.Proofs.YtkmcjfkokoidcaaGreatDoor
namespace Go.Proofs.YtkmcjfkokoidcaaGreatDoor
open Go Go.RowKit
def Aoj (R g:Nat) (s:ByteArray) (w:World) (r:Rd Val) (e:Ending) (w':World):Prop:=match r with
 | .ok _ q=>e=.returned (.tuple #[])/\Br R g s q w w'
 | .bad c q=>e=L9 c q/\w.grownBy w' (some R)
theorem Ph (R g:Nat) (s t:ByteArray) (k:Nat) (v:Val) (w:World) (hs:s.size<=1000000000) (hk:k<=s.size) (ht:t.size<=100) (h:Wj w R g s k):
 Calls Tryz.prog 204 #[.pointer (some ⟨R,0,none⟩),.string t] w (Aoj R g s w (Dh s.data.toList k t.data.toList v)):=by
 have hext:(s.extract k s.size).data.toList=s.data.toList.drop k:=by
  rw[Lib.extract_data];exact List.take_of_length_le (by rw[List.length_drop,Al];omega)
 have hH:=fun W=>Tryz.strings_HasPrefix (s.extract k s.size) t W;rw[hext]at hH;have hB:Lib.hasPrefix (s.data.toList.drop k) t.data.toList=t.data.toList.isPrefixOf (s.data.toList.drop k):=rfl;rw[hB]at hH;clear hB hext;have i0:(0:Int)<=(k:Int):=by omega
 have i1:(k:Int)<=(s.size:Int):=by omega
 obtain⟨c0,c1,_,f1,hR⟩:=h.cells;have H:=qz h;clear h;unfold Dh
 cases hp:t.data.toList.isPrefixOf (s.data.toList.drop k)with
 |true=>
  rw[hp]at hH;rw[if_pos rfl,Al];have hle:k+t.size<=s.size:=by
   have:=(List.isPrefixOf_iff_prefix.1 hp).length_le;rw[List.length_drop,Al,Al]at this;omega
  clear hp;have HH:=qz hH;clear hH;go_enter Tryz.func204,Tryz.ntmps204;go_wp2;go_quiet ((go_at_call 247;exact Calls.quiet_of_same (HH.out _)));go_wp2
  go_end0
  exact⟨rfl,((Br.refl H.out).drewN _).set _⟩
 |false=>
  rw[hp]at hH;rw[if_neg (by decide)];clear hp;have HW:=qz (fun W=>Cp (.pointer (some ⟨R,0,none⟩)) 4 k W);have HH:=qz hH;clear hH;go_enter Tryz.func204,Tryz.ntmps204;go_wp2;go_quiet ((go_at_call 247;exact Calls.quiet_of_same (HH.out _)));go_wp2_with (fail);(with_reducible refine(HW.out _).mono ?_);rintro e w1 ⟨rfl,rfl⟩;exact⟨rfl,rfl,F9 (World.grownBy.refl _ _) _⟩
def Az (p:Prop) (w:World) (e:Ending) (w':World):Prop:= ∃c:Int,e=.returned (.int .i64 c)/\(c=0 ↔ p)/\Below w.heap.size w w'
theorem Az.of {p:Prop} {w w':World} {c:Int} (h:c=0 ↔ p) (hb:Below w.heap.size w w'):Az p w (.returned (.int .i64 c)) w':=⟨c,rfl,h,hb⟩
abbrev Ag8 (k:Int) (b:Bool) (n:Int) (t:ByteArray) (x y:Value):Obj:=.cells #[.int .i64 k,.bool b,.int .i64 n,.string t,x,y] 37
theorem B6 (w:World) (o o':Obj):Below w.heap.size w ((w.alloc o).alloc o'):=((Below.refl _ _).alloc (Nat.le_refl _) _).alloc (by simp) _
theorem Ajv (k k':Int) (b b':Bool) (n n':Int) (t t':ByteArray) (x y x' y':Value) (w:World) (h:k≠k') (p:Prop) (hp: ¬p):
 Calls Tryz.prog 50 #[.agg #[.int .i64 k,.bool b,.int .i64 n,.string t,x,y],.agg #[.int .i64 k',.bool b',.int .i64 n',.string t',x',y']] w (Az p w):=by
 have h1:(k==k')=false:=by simpa using h
 have h2:(k != k')=true:=by simpa using h
 obtain⟨C,hC⟩: ∃C,Ir k k'=C:=⟨_,rfl⟩;have cN:=fun w=>Fz k k' w;rw[hC]at cN;have HN:=qz cN;have Hc:Hid (C=0 ↔ p):=by
  show _ ↔ _;rw[<-hC,Dn];exact⟨fun e=>absurd e h,fun e=>absurd e hp⟩
 clear cN hC h hp;go_enter Tryz.func50,Tryz.ntmps50;go_wp2_with (fail);(with_reducible refine(HN.out _).mono ?_);rintro e w' ⟨rfl,rfl⟩;go_wp2;go_ret;exact Az.of Hc.out (B6 _ _ _)
theorem Aju (b b':Bool) (n n':Int) (t t':ByteArray) (x y x' y':Value) (w:World) (p:Prop) (hp:b=b' ↔ p):
 Calls Tryz.prog 50 #[.agg #[.int .i64 2,.bool b,.int .i64 n,.string t,x,y],.agg #[.int .i64 2,.bool b',.int .i64 n',.string t',x',y']] w (Az p w):=by
 cases b<;>cases b'
 . have Hp:Hid p:=hp.1 rfl;clear hp;go_enter Tryz.func50,Tryz.ntmps50;go_wp2;go_ret;exact Az.of ⟨fun _=>Hp.out,fun _=>rfl⟩ (B6 _ _ _)
 . have Hp:Hid (¬p):=fun h=>by cases hp.2 h
   clear hp;go_enter Tryz.func50,Tryz.ntmps50;go_wp2;go_ret;exact Az.of (c:= -1) ⟨fun h=>absurd h (by decide),fun h=>absurd h Hp.out⟩ (B6 _ _ _)
 . have Hp:Hid (¬p):=fun h=>by cases hp.2 h
   clear hp;go_enter Tryz.func50,Tryz.ntmps50;go_wp2;go_ret;exact Az.of (c:=1) ⟨fun h=>absurd h (by decide),fun h=>absurd h Hp.out⟩ (B6 _ _ _)
 . have Hp:Hid p:=hp.1 rfl;clear hp;go_enter Tryz.func50,Tryz.ntmps50;go_wp2;go_ret;exact Az.of ⟨fun _=>Hp.out,fun _=>rfl⟩ (B6 _ _ _)
theorem Ama (b b':Bool) (n n':Int) (t t':ByteArray) (x y x' y':Value) (w:World) (p:Prop) (hp:n=n' ↔ p):
 Calls Tryz.prog 50 #[.agg #[.int .i64 3,.bool b,.int .i64 n,.string t,x,y],.agg #[.int .i64 3,.bool b',.int .i64 n',.string t',x',y']] w (Az p w):=by
 obtain⟨C,hC⟩: ∃C,Ir n n'=C:=⟨_,rfl⟩;have cN:=fun w=>Fz n n' w;rw[hC]at cN;have HN:=qz cN;have Hc:Hid (C=0 ↔ p):=by
  show _ ↔ _;rw[<-hC,Dn];exact hp
 clear cN hC hp;go_enter Tryz.func50,Tryz.ntmps50;go_wp2_with (fail);(with_reducible refine(HN.out _).mono ?_);rintro e w' ⟨rfl,rfl⟩;go_wp2;go_ret;exact Az.of Hc.out (B6 _ _ _)
theorem Ajw (b b':Bool) (n n':Int) (t t':ByteArray) (x y x' y':Value) (w:World) (p:Prop) (h1:t.size<=1000000000) (h2:t'.size<=1000000000) (hp:t=t' ↔ p):
 Calls Tryz.prog 50 #[.agg #[.int .i64 4,.bool b,.int .i64 n,.string t,x,y],.agg #[.int .i64 4,.bool b',.int .i64 n',.string t',x',y']] w (Az p w):=by
 have HN:=qz (fun w=>Sh t t' w h1 h2);have Hp:=qz hp;clear hp;go_enter Tryz.func50,Tryz.ntmps50;go_wp2_with (fail);(with_reducible refine(HN.out _).mono ?_);rintro e w' ⟨c,rfl,hc,hb⟩;have Hc:=qz hc;clear hc;go_wp2;go_ret;exact Az.of (Hc.out.trans Hp.out) ((B6 _ _ _).trans (hb.mono (by simp;omega)))
theorem Xi:((Tryz.prog.info? Vg).map fun i=>decide (i.size≠0))=some true:=by kernel_rfl
theorem Bm.blk {S:Nat->Prop} {w:World} {n:Nd} {b:Nat} (h:Bm S w n b): ∃cs,Aj w b Vg cs:=by
 cases n<;>simp only[Bm]at h
 . obtain⟨_,_,_,_,_,h⟩:=h;exact⟨_,h⟩
 . obtain⟨_,_,_,_,_,_,h,_⟩:=h;exact⟨_,h⟩
theorem Ali (w:World) (q:Nat):(binOp .eql 24 (.pointer (some ⟨q,0,none⟩)) (.pointer (some ⟨q,0,none⟩))).run Tryz.prog w=.ok (.bool true) w:=by
 have h:=Xi
 cases hj:Tryz.prog.info? Vg with
 |none=>rw[hj]at h;cases h
 |some j=>exact run_eql_ptr_same w _ (by kernel_rfl) hj
theorem Aie {w:World} {q r:Nat} {cs ds:Array Value} (hq:Aj w q Vg cs) (hr:Aj w r Vg ds) (hne:q≠r):(binOp .eql 24 (.pointer (some ⟨q,0,none⟩)) (.pointer (some ⟨r,0,none⟩))).run Tryz.prog w=.ok (.bool false) w:=by
 have h:=Xi
 cases hj:Tryz.prog.info? Vg with
 |none=>rw[hj]at h;cases h
 |some j=>
  rw[hj]at h;exact run_eql_ptr_other w (by kernel_rfl) hj (by simpa using h) (fun e=>hne (by cases e;rfl)) hq hr
end Go.Proofs.YtkmcjfkokoidcaaGreatDoor
