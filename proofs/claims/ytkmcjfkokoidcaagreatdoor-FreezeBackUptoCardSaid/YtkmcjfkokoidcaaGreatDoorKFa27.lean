/- Parts: parse.reader: quote, quoted, null, no, yes. Condition: a text of at most 10^9 bytes. -/
import Derived.Test.YtkmcjfkokoidcaaGreatDoorKFa21
import Derived.Test.YtkmcjfkokoidcaaGreatDoorKFa23
set_option maxHeartbeats 20000000
set_option maxRecDepth 100000
namespace Go.Proofs.YtkmcjfkokoidcaaGreatDoor
open Go Go.RowKit
theorem Aj.nxt (w:World) (o:Obj) (t:TypeId) (cs:Array Value):Aj ((w.alloc o).alloc (.cells cs t)) (w.heap.size+1) t cs:=by
 have:=Aj.new (w.alloc o) t cs
 rwa [World.size_alloc]at this
structure KB (S:Nat->Prop) (w w':World):Prop where
 os:w'.os=w.os
 tape:w'.tape=w.tape
 output:w'.output=w.output
 size:w.heap.size<=w'.heap.size
 block: ∀k,k<w.heap.size-> ¬S k->w'.heap[k]? =w.heap[k]?
theorem KB.trans {S T:Nat->Prop} {w w1 w2:World} (h:KB S w w1) (h':KB T w1 w2) (hT: ∀k,k<w.heap.size->T k->S k):KB S w w2:=
 ⟨h'.os.trans h.os,h'.tape.trans h.tape,h'.output.trans h.output,Nat.le_trans h.size h'.size,fun k h1 h2=>(h'.block k (Nat.lt_of_lt_of_le h1 h.size) fun h3=>h2 (hT k h1 h3)).trans (h.block k h1 h2)⟩
theorem KB.of_below {S:Nat->Prop} {w w':World} (h:Below w.heap.size w w'):KB S w w':=⟨h.os,h.tape,h.output,h.size,fun k h1 _=>h.block k h1⟩
theorem KB.of_grown {S:Nat->Prop} {w w':World} {r:Option Nat} (h:w.grownBy w' r) (hr: ∀k,r=some k->S k):KB S w w':=⟨h.os,h.tape,h.output,h.size,fun k h1 h2=>h.block k h1 fun e=>h2 (hr k e.symm)⟩
theorem KB.set {S:Nat->Prop} (w:World) (p:Addr) (hp:S p.block) (v:Value):KB S w (w.setCell p v):=⟨rfl,rfl,rfl,by simp[World.setCell],fun k _ h2=>Below.heap_setCell _ _ _ _ (fun e=>h2 (e▸hp))⟩
theorem KB.below {S:Nat->Prop} {w w':World} {B:Nat} (h:KB S w w') (hS: ∀k,S k->B<=k) (hB:B<=w.heap.size):Below B w w':=⟨h.os,h.tape,h.output,h.size,fun k h1=>h.block k (Nat.lt_of_lt_of_le h1 hB) fun h2=>Nat.lt_irrefl _ (Nat.lt_of_lt_of_le h1 (hS k h2))⟩
theorem Aj.kb {S:Nat->Prop} {w w':World} {g:Nat} {t:TypeId} {cs:Array Value} (hx:Aj w g t cs) (h:KB S w w') (hn: ¬S g):Aj w' g t cs:=(h.block g hx.lt hn).trans hx
theorem KB.put {S:Nat->Prop} (w:World) {k:Nat} (hk:S k) (o:Obj):KB S w (w.putObj k o):=⟨rfl,rfl,rfl,by simp[World.putObj],fun j _ h2=>World.putObj_heap_other (fun e=>h2 (e▸hk))⟩
def Af8 {α β:Type} (P:Program) (gf:Nat) (lb:Array Value) (encs:α->β->Array Value) (E:α->β->(Nat->Prop)->World->Prop) (K0:Nat->Prop) (xs:List α) (N:World->Prop):Prop:=
 ∀(n l:Nat) (J:List α->(Nat->Prop)->(Nat->Prop)->World->Prop) (Jx:World->Prop) (W:World),
  (∀s T K A T' K' B,J s T K A->KB T A B->(∀i,i<A.heap.size->(T' i ↔ T i)/\(K' i ↔ K i))->(∀i,K' i->i<B.heap.size)->J s T' K' B)->
  (∀pre x rest q T K A,xs=pre++x::rest->J pre T K A->E x q (fun i=>K i/\ ¬T i) A->(∀i,T i->K i)->(∀i,K i->i<A.heap.size)->YieldAt Fence.wide n P l (encs x q) A fun e B=>(e=.returned (.bool true)/\J (pre++ [x]) T K B/\KB (fun i=> ¬K i) A B)\/(e=.returned (.bool false)/\Jx B/\KB (fun i=> ¬K i) A B))->(∀A B,Jx A->Below A.heap.size A B->Jx B)->
  N W->J [] (fun _=>False) K0 W->CallsIn Fence.wide (n+1) P gf (#[.func (.yield l) #[] #[]]++lb) W fun e B=>(∃v,e=.returned v)/\((∃T K,J xs T K B)\/Jx B)
theorem Afz {α β:Type} {P:Program} {g:Operand} {ps:Array Tmp} {assign body:Code} {Q:Exit->Act->World->Prop} {a:Act} {w:World} {n:Nat}
 {gf:Nat} {lb:Array Value} (hg:a.eval g=.func (.func gf) #[] lb) (eg: ∀args w,(callFunc gf args).run P w=.ok (.enter gf args) w)
 {encs:α->β->Array Value} {E:α->β->(Nat->Prop)->World->Prop} {K0:Nat->Prop} {xs:List α} {N:World->Prop} (hit:Af8 P gf lb encs E K0 xs N) (hps: ∀x q,(encs x q).size=ps.size)
 (hEp: ∀x q D A k o',E x q D A-> ¬D k->E x q D (A.putObj k o')) (hK0: ∀i,K0 i->i<w.heap.size)
 (I:List α->(Nat->Prop)->(Nat->Prop)->World->Prop) (Ix:World->Prop) (hXn: ∀A B,Ix A->Below A.heap.size A B->Ix B)
 (hXp: ∀A k o o',Ix A->A.heap[k]? =some o->o.isCells=false->w.heap.size<=k->Ix (A.putObj k o'))
 (hIn: ∀s T K A T' K' B,I s T K A->KB T A B->(∀i,i<A.heap.size->(T' i ↔ T i)/\(K' i ↔ K i))->(∀i,K' i->i<B.heap.size)->I s T' K' B)
 (hIp: ∀s T K A k o o',I s T K A->A.heap[k]? =some o->o.isCells=false-> ¬K k->w.heap.size<=k->I s T K (A.putObj k o'))
 (hEb: ∀x q D A B,E x q D A->Below A.heap.size A B->E x q D B) (hN: ∀W,Below w.heap.size w W->N W) (h0:I [] (fun _=>False) K0 w) (RB:α->β->Act->World->Prop)
 (hRp: ∀x q a' A k o o',RB x q a' A->A.heap[k]? =some o->o.isCells=false->RB x q a' (A.putObj k o'))
 (hassign: ∀(l:Nat) (x:α) (q:β) (D:Nat->Prop) (W:World) (K:Act->World->Prop),w.heap.size+1<W.heap.size->E x q D W->(∀a' W',Below W.heap.size W W'->RB x q a' W'->K a' W')->
   assign.wpIn (Fence.wide.inRound l) n P (Exit.then K (fun _ _ _=>False)) {tmps:=(ps.zip (encs x q)).foldl (fun t (p,v)=>t.setIfInBounds p v) a.tmps,defers:= []} W)
 (hbody: ∀(l:Nat) (pre:List α) (x:α) (rest:List α) (q:β) (T K:Nat->Prop) (a':Act) (W:World),RB x q a' W->xs=pre++x::rest->I pre T K W->E x q (fun i=>K i/\ ¬T i) W->(∀i,T i->K i)->(∀i,K i->i<W.heap.size)->
   ¬K w.heap.size-> ¬K (w.heap.size+1)->(∃ds,W.heap[w.heap.size]? =some (.deferred ds))->(∃r,W.heap[w.heap.size+1]? =some (.loop r))->
   body.wpIn (Fence.wide.inRound l) n P (N4 (fun B=>I (pre++ [x]) T K B/\KB (fun i=> ¬K i) W B) (fun B=>Ix B/\KB (fun i=> ¬K i) W B) w.heap.size W) a' W)
 (hstop: ∀(W:World),Ix W->W.heap[w.heap.size]? =some (.deferred (some []))->Code.ret.wpIn Fence.wide (n+1+1) P Q {a with defers:={target:=.collected w.heap.size,args:= #[]}::a.defers} W)
 (hdone: ∀(T K:Nat->Prop) (W:World),I xs T K W-> ¬K w.heap.size->W.heap[w.heap.size]? =some (.deferred (some []))->Q .normal {a with defers:={target:=.collected w.heap.size,args:= #[]}::a.defers} W):
 (Code.rangeFunc g ps assign body).wpIn Fence.wide (n+1+1) P Q a w:=by
 refine wpIn_rangeFunc ?_;intro fn hfn;have hro:Fence.wide.round=none:=rfl;rw[hro];obtain⟨rec,hrec⟩: ∃rec:LoopState->Option Code->Loop,rec=fun st pe=>{state:=st,pending:=pe,fn,tmps:=a.tmps,params:=ps,assign,body,defers:=w.heap.size}:=⟨_,rfl⟩;obtain⟨W1,hW1⟩: ∃W1,(w.alloc (.deferred (some []))).alloc (.loop (rec .ready none))=W1:=⟨_,rfl⟩;have hL1:W1.heap[w.heap.size+1]? =some (.loop (rec .ready none)):=by
  rw[<-hW1];have:=World.alloc_heap_new (w.alloc (.deferred (some []))) (.loop (rec .ready none));rwa [World.size_alloc]at this
 have hK1:W1.heap[w.heap.size]? =some (.deferred (some [])):=by
  rw[<-hW1];exact(Below.heap_alloc _ _ _ (by simp)).trans (World.alloc_heap_new w _)
 have hbW:Below w.heap.size w W1:=hW1▸((Below.refl _ w).alloc (Nat.le_refl _) _).alloc (by simp) _;have hI1:I [] (fun _=>False) K0 W1:=hIn _ _ _ _ _ _ _ h0 (KB.of_below hbW) (fun _ _=>⟨Iff.rfl,Iff.rfl⟩) fun i hi=>Nat.lt_of_lt_of_le (hK0 i hi) hbW.size;refine⟨w.heap.size+1, [{target:=.collected w.heap.size,args:= #[]}],W1,{target:=.fn (.func gf) lb,args:= #[.func (.yield (w.heap.size+1)) #[] #[]]},W1,gf,
  #[.func (.yield (w.heap.size+1)) #[] #[]]++lb,W1, ?_, ?_, ?_, ?_,fun h=>by simp[Fence.wide]at h, ?_⟩
 . rw[<-hW1,hrec];exact run_enterLoop_outer _ _ _ _ _
 . simp only[resolve,hg];simp[go_sem]
 . intro f' _;trivial
 . simp[invoke,go_sem,eg]
 . refine(hit n (w.heap.size+1)
    (fun pre T K W=>I pre T K W/\W.heap[w.heap.size+1]? =some (.loop (rec .ready none))/\W.heap[w.heap.size]? =some (.deferred (some []))/\ ¬T w.heap.size/\ ¬T (w.heap.size+1)/\ ¬K w.heap.size/\ ¬K (w.heap.size+1)/\ ∀i,K i->i<W.heap.size)
    (fun W=>Ix W/\W.heap[w.heap.size+1]? =some (.loop (rec .done (some .ret)))/\W.heap[w.heap.size]? =some (.deferred (some [])))
    W1 ?_ ?_ (fun A B hs hb=>⟨hXn A B hs.1 hb,(hb.block _ (Array.getElem?_eq_some_iff.1 hs.2.1).1).trans hs.2.1,(hb.block _ (Array.getElem?_eq_some_iff.1 hs.2.2).1).trans hs.2.2⟩) (hN _ hbW) ⟨hI1,hL1,hK1,fun h=>h,fun h=>h,fun h=>by have:=hK0 _ h;omega,fun h=>by have:=hK0 _ h;omega,fun i hi=>Nat.lt_of_lt_of_le (hK0 i hi) hbW.size⟩).mono ?_
   . rintro s T K A T' K' B ⟨j1,j2,j3,j4,j5,j6,j7,j8⟩ hb hTK hKB;have z2:=(Array.getElem?_eq_some_iff.1 j2).1;have z3:=(Array.getElem?_eq_some_iff.1 j3).1;exact⟨hIn _ _ _ _ _ _ _ j1 hb hTK hKB,(hb.block _ z2 j5).trans j2,(hb.block _ z3 j4).trans j3,fun h=>j4 ((hTK _ z3).1.1 h),fun h=>j5 ((hTK _ z2).1.1 h),fun h=>j6 ((hTK _ z3).2.1 h),fun h=>j7 ((hTK _ z2).2.1 h),hKB⟩
   ·
    rintro pre x rest q T K W hx ⟨hi,hl,hk,j4,j5,j6,j7,j8⟩ hE hTK _;have hlt:w.heap.size+1<W.heap.size:=(Array.getElem?_eq_some_iff.1 hl).1;have hy:=run_yield (P:=P) (args:=encs x q) hl (by rw[hrec];exact hps x q);rw[hrec]at hy;refine⟨fn,_,assign,body,hy,roundIn_of_wpIn trivial (hassign _ x q _ W _ hlt hE fun a' W' hbW hRB=>⟨_,run_beginRound ((hbW.block _ hlt).trans hl) (by rw[hrec]), ?_⟩)⟩;have hlt':=Nat.lt_of_lt_of_le hlt hbW.size;have hlW:=(hbW.block _ hlt).trans hl;have hkW:=(hbW.block _ (by omega)).trans hk;have hiW:=hIn _ _ _ _ T K _ hi (KB.of_below hbW) (fun _ _=>⟨Iff.rfl,Iff.rfl⟩) fun i h=>Nat.lt_of_lt_of_le (j8 i h) hbW.size;have hEW:=hEb _ _ _ _ _ hE hbW;have hl2:(W'.putObj (w.heap.size+1) (.loop {rec .ready none with state:=.busy})).heap[w.heap.size+1]? =some (.loop {rec .ready none with state:=.busy}):=World.putObj_heap_same hlt';have hk2:(W'.putObj (w.heap.size+1) (.loop {rec .ready none with state:=.busy})).heap[w.heap.size]? =some (.deferred (some [])):=(World.putObj_heap_other (by omega)).trans hkW;have hkb1:=(KB.of_below (S:=fun i=> ¬K i) hbW).trans (KB.put (S:=fun i=> ¬K i) W' (k:=w.heap.size+1) j7 (.loop {rec .ready none with state:=.busy})) fun _ _ h=>h;refine wpIn_mono (hbody _ pre x rest q T K a' _ (hRp _ _ _ _ _ _ _ hRB hlW rfl) hx (hIp _ _ _ _ _ _ _ hiW hlW rfl j7 (by omega)) (hEp _ _ _ _ _ _ hEW fun h=>j7 h.1) hTK (fun i hi=>Nat.lt_of_lt_of_le (j8 i hi) hkb1.size) j6 j7 ⟨_,hk2⟩ ⟨_,hl2⟩) ?_;rintro e a3 W3 hp
    cases e with
    |normal=>
     obtain⟨h1,h2,hi3,hkb2⟩:=hp;have hl3:=h2.trans hl2;have hk3:=h1.trans hk2;have hr:=run_endRound (P:=P) none hl3;rw[hrec]at hr;have hkb3:=(hkb1.trans hkb2 fun _ _ h=>h).trans (KB.put (S:=fun i=> ¬K i) W3 (k:=w.heap.size+1) j7 (.loop {rec .ready none with state:=.ready})) fun _ _ h=>h;refine⟨_,_,hr,.inl ⟨rfl,⟨hIp _ _ _ _ _ _ _ hi3 hl3 rfl j7 (by omega), ?_, ?_,j4,j5,j6,j7,fun i hi=>Nat.lt_of_lt_of_le (j8 i hi) ?_⟩, ?_⟩⟩
     . rw[World.putObj_heap_same (Array.getElem?_eq_some_iff.1 hl3).1,hrec];rfl
     . exact(World.putObj_heap_other (by omega)).trans hk3
     . rw[hrec]at hkb3;exact hkb3.size
     . rw[hrec]at hkb3;exact hkb3
    |ret=>
     obtain⟨h1,h2,hi3,hkb2⟩:=hp;have hl3:=h2.trans hl2;have hk3:=h1.trans hk2;have hr:=run_endRound (P:=P) (some .ret) hl3;rw[hrec]at hr;have hkb3:=(hkb1.trans hkb2 fun _ _ h=>h).trans (KB.put (S:=fun i=> ¬K i) W3 (k:=w.heap.size+1) j7 (.loop {rec .done (some .ret)with state:=.done})) fun _ _ h=>h;refine⟨_,_,hr,.inr ⟨rfl,⟨hXp _ _ _ _ hi3 hl3 rfl (by omega), ?_, ?_⟩, ?_⟩⟩
     . rw[World.putObj_heap_same (Array.getElem?_eq_some_iff.1 hl3).1,hrec];rfl
     . exact(World.putObj_heap_other (by omega)).trans hk3
     . rw[hrec]at hkb3;exact hkb3
    |exit id=>exact hp.elim
    |goto t=>exact hp.elim
    |panic ch=>exact hp.elim
    |outgrown=>exact hp.elim
   ·
    rintro e W2 ⟨⟨v,rfl⟩,⟨T,K,hi,hl,hk,_,_,j6,j7,_⟩|⟨hi,hl,hk⟩⟩
    . exact⟨none,_,by have:=run_endLoop (P:=P) hl (by rw[hrec];simp);rw[hrec]at this;exact this,hdone T K _ (hIp _ _ _ _ _ _ _ hi hl rfl j7 (by omega)) j6 ((World.putObj_heap_other (by omega)).trans hk)⟩
    . exact⟨some .ret,_,by have:=run_endLoop (P:=P) hl (by rw[hrec];simp);rw[hrec]at this;exact this,hstop _ (hXp _ _ _ _ hi hl rfl (by omega)) ((World.putObj_heap_other (by omega)).trans hk)⟩
inductive Mut where
 |mk (k:Int) (key dst:ByteArray) (n:Int) (had:Bool) (was:Val) (has:Bool) (v:Val) (l:List Mut)
theorem Mut.ind {p:Mut->Prop} (h: ∀k key dst n had was has v l,(∀m ∈ l,p m)->p (.mk k key dst n had was has v l)): ∀m,p m:=by
 intro m;refine Mut.rec (motive_1:=p) (motive_2:=fun l=> ∀m ∈ l,p m) ?_ ?_ ?_ m
 . intro k key dst n had was has v l hl;exact h _ _ _ _ _ _ _ _ _ hl
 . intro m hm
   cases hm
 . intro m r hm hr x hx;rcases List.mem_cons.1 hx with rfl|hx
   . exact hm
   . exact hr x hx
mutual
def dM:Mut->D
 | .mk k key dst n had was has v l=> .agg [.leaf (.int .i64 k),.leaf (.string key),.leaf (.string dst),.leaf (.int .i64 n),.leaf (.bool had),dV was,.leaf (.bool has),dV v,.row 19 (dMs l)]
def dMs:List Mut->List D
 | []=> []
 |m::r=>dM m::dMs r
end
mutual
def Aoo:Mut->Nat
 | .mk _ key dst _ _ was _ v l=>8+key.size+dst.size+was.bulk+v.bulk+Ajp l
def Ajp:List Mut->Nat
 | []=>0
 |m::r=>Aoo m+Ajp r
end
mutual
def inM:Mut->Prop
 | .mk _ _ _ n _ was _ v l=>(-9223372036854775808<=n/\n<=9223372036854775807)/\J8 was/\J8 v/\Aop l
def Aop:List Mut->Prop
 | []=>True
 |m::r=>inM m/\Aop r
end
mutual
def Ao3:Mut->Nat
 | .mk _ _ _ _ _ _ _ _ l=>1+Alv l
def Alv:List Mut->Nat
 | []=>0
 |m::r=>Ao3 m+Alv r
end
def Aom (k:Int) (dst:ByteArray) (n:Int) (had wasZ has valZ:Bool) (ln:Nat):Bool:=
 decide (1<=k)&&decide (k<=7)&&(decide (k=6)||dst.toList.isEmpty)&&(decide (k=3)||decide (n=0))&&(decide (k=4)||decide (k=7)|| !had)&&(decide (k=4)|| !has)&&(had||wasZ)&&(decide (k=1)||decide (k=5)||(decide (k=4)&&has)||valZ)&&(decide (k=7)||decide (ln=0))
def Alu (s:ByteArray):Bool:=decide (s.size<=64)&&A9 s
def An7 (k:Int) (key dst:ByteArray) (had:Bool):Bool:=if k=6 then Alu key&&Alu dst else if k=7/\key.toList.isEmpty=true then !had else Zf key
mutual
def Aoz:Mut->Int->Int
 | .mk k key dst n had was has v l,d=>
   if Aom k dst n had (Anm was) has (Anm v) l.length=false then 9 else if 6<d then 5 else if An7 k key dst had=false then 8
   else if had=true/\Gt was≠0 then Gt was else if(has||decide (k=1)||decide (k=5))=true/\Gt v≠0 then Gt v else Ani l (d+1)
def Ani:List Mut->Int->Int
 | [],_=>0
 |m::r,d=>if Aoz m d=0 then Ani r d else Aoz m d
end
structure Num where
 id:Int
 m:Mut
abbrev Aou:ByteArray:=⟨#[97,114,103,115]⟩
abbrev Aow:ByteArray:=⟨#[110,97,109,101]⟩
abbrev kBy:ByteArray:=⟨#[98,121]⟩
abbrev kIs:ByteArray:=⟨#[105,115]⟩
abbrev Aph:ByteArray:=⟨#[119,97,115]⟩
abbrev Aov:ByteArray:=⟨#[102,114,111,109]⟩
abbrev kTo:ByteArray:=⟨#[116,111]⟩
abbrev kDo:ByteArray:=⟨#[100,111]⟩
abbrev kIf:ByteArray:=⟨#[105,102]⟩
abbrev Apn:ByteArray:=⟨#[112,117,116]⟩
abbrev Apl:ByteArray:=⟨#[100,101,108]⟩
abbrev Apm:ByteArray:=⟨#[105,110,99]⟩
abbrev Apk:ByteArray:=⟨#[99,97,115]⟩
abbrev Apj:ByteArray:=⟨#[97,112,112,101,110,100]⟩
abbrev Ao0:ByteArray:=⟨#[109,111,118,101]⟩
abbrev Apo:ByteArray:=⟨#[115,101,113]⟩
def Ao1 (k:Int):ByteArray:=if k=1 then Apn else if k=2 then Apl else if k=3 then Apm else if k=4 then Apk else if k=5 then Apj else if k=6 then Ao0 else Apo
def Akc (key:ByteArray) (had:Bool) (was:Val):List (ByteArray×Val):=(Amt,tv key)::(if had then [(Aph,was)]else [])
mutual
def Api:Mut->Val
 | .mk k key dst n had was has v l=>ov [(Aou,ov (if k=1\/k=5 then [(Amt,tv key),(Apg,v)]else if k=2 then [(Amt,tv key)]else if k=3 then [(kBy,iv n),(Amt,tv key)]
    else if k=4 then(if has then [(kIs,v)]else [])++Akc key had was
    else if k=6 then [(Aov,tv key),(kTo,tv dst)]
    else(kDo,lv (Anj l))::(if key.toList.isEmpty then []else [(kIf,ov (Akc key had was))]))),(Aow,tv (Ao1 k))]
def Anj:List Mut->List Val
 | []=> []
 |m::r=>Api m::Anj r
end
theorem Aky {v:Val} {d:Int} (h:Gt v=0) (hd:d<=48):Au v d=0:=by
 obtain⟨f1,f2,_⟩:=O7 h;exact Ab5 v _ 1 f1 (by omega)
theorem Afk (s:ByteArray) (w:World) (hs:s.size<=1000000000):Calls Tryz.prog 63 #[.string s] w fun e w'=>e=.returned (.int .i64 (Og s))/\w=w':=by
 obtain⟨B,hB⟩: ∃B,A9 s=B:=⟨_,rfl⟩;have HC:=qz (fun W=>Cw hB W hs);have e0:s.toList.isEmpty=decide (s.size=0):=by
  rw[Lib.toList_data,Lib.size_eq];cases s.data.toList<;>simp
 have hE:Og s=if s.size=0 then 8 else if 64<s.size then 6 else if B then 0 else 3:=by
  unfold Og;rw[e0,hB];simp
 clear hB e0;by_cases h0:s.size=0
 . rw[if_pos h0]at hE;have t0:((s.size:Int)==0)=true:=by rw[beq_iff_eq];omega
   have HE:=qz hE;clear hE;clear h0;go_enter Tryz.func63,Tryz.ntmps63;go_wp2;go_ret;exact⟨by rw[HE.out];rfl,rfl⟩
 rw[if_neg h0]at hE;have t0:((s.size:Int)==0)=false:=by rw[beq_eq_false_iff_ne];omega
 by_cases h1:64<s.size
 . rw[if_pos h1]at hE;have t1:(64:Int)<(s.size:Int):=by omega
   have HE:=qz hE;clear hE;clear h0 h1;go_enter Tryz.func63,Tryz.ntmps63;go_wp2;go_ret;exact⟨by rw[HE.out];rfl,rfl⟩
 rw[if_neg h1]at hE;have t1:(s.size:Int)<=64:=by omega
 have HE:=qz hE;clear hE;clear h0 h1
 cases B with
 |true=>
  go_enter Tryz.func63,Tryz.ntmps63;go_wp2_with (go_at_call 112;(with_reducible refine(HC.out _).mono ?_);rintro e w2 ⟨rfl,rfl⟩);go_ret;exact⟨by rw[HE.out];rfl,rfl⟩
 |false=>
  go_enter Tryz.func63,Tryz.ntmps63;go_wp2_with (go_at_call 112;(with_reducible refine(HC.out _).mono ?_);rintro e w2 ⟨rfl,rfl⟩);go_ret;exact⟨by rw[HE.out];rfl,rfl⟩
abbrev Lr:Val:=.mk 0 false 0 ⟨#[]⟩ [] []
theorem Pa (w:World) (B:Nat):Ac w B Lr [.int .i64 0,.bool false,.int .i64 0,.string ⟨#[]⟩,.slice none 0 0,.slice none 0 0]:=by
 simp only[Ac];exact⟨none,0,none,0,rfl,by simp,by simp⟩
mutual
def Dj:Val->Val->Bool
 | .mk k b n t l o,.mk k' b' n' t' l' o'=>decide (k=k')&&(if k=2 then b==b' else if k=3 then decide (n=n')else if k=4 then decide (t=t')else if k=5 then Lc l l' else if k=6 then Km o o' else true)
def Lc:List Val->List Val->Bool
 | [], []=>true
 | [],_::_=>false
 |_::_, []=>false
 |x::r,y::s=>Dj x y&&Lc r s
def Km:List (ByteArray×Val)->List (ByteArray×Val)->Bool
 | [], []=>true
 | [],_::_=>false
 |_::_, []=>false
 |p::r,q::s=>Nm p q&&Km r s
def Nm:ByteArray×Val->ByteArray×Val->Bool
 |(k,x),(k',y)=>decide (k=k')&&Dj x y
end
theorem Xz: ∀{l:List Val},(∀v ∈ l,Dj v v=true)->Lc l l=true
 | [],_=>by simp[Lc]
 |v::r,h=>by simp only[Lc,h v (by simp),Xz (l:=r) fun x hx=>h x (by simp[hx]),Bool.and_self]
theorem X0: ∀{o:List (ByteArray×Val)},(∀m ∈ o,Dj m.2 m.2=true)->Km o o=true
 | [],_=>by simp[Km]
 |(k,v)::r,h=>by
  have h1:Dj v v=true:=h (k,v) (by simp);simp only[Km,Nm,h1,X0 (o:=r) fun x hx=>h x (by simp[hx]),Bool.and_self,decide_true]
theorem X1: ∀v,Dj v v=true:=by
 refine Val.ind ?_;intro k b n t l o hl ho;simp only[Dj,Xz hl,X0 ho,decide_true,Bool.true_and,beq_self_eq_true]
 split
 . rfl
 split
 . rfl
 split
 . rfl
 split
 . rfl
 split<;>rfl
def Al7 (a:Val):Prop:= ∀(b:Val) (d d':Int),Au a d=0->Au b d'=0->Dj a b=true->a=b
theorem Agz: ∀{l l':List Val},(∀v ∈ l,Al7 v)-> ∀{d d':Int},C2 l d=0->C2 l' d'=0->Lc l l'=true->l=l'
 | [], [],_,_,_,_,_,_=>rfl
 | [],_::_,_,_,_,_,_,h=>by simp[Lc]at h
 |_::_, [],_,_,_,_,_,h=>by simp[Lc]at h
 |x::r,y::s,hc,d,d',h1,h2,h=>by
  simp only[Lc,Bool.and_eq_true]at h;have hx:Au x d=0/\C2 r d=0:=by
   simp only[C2]at h1;by_cases e:Au x d=0
   . rw[if_pos e]at h1;exact⟨e,h1⟩
   . rw[if_neg e]at h1;exact absurd h1 e
  have hy:Au y d'=0/\C2 s d'=0:=by
   simp only[C2]at h2;by_cases e:Au y d'=0
   . rw[if_pos e]at h2;exact⟨e,h2⟩
   . rw[if_neg e]at h2;exact absurd h2 e
  rw[hc x (by simp) y d d' hx.1 hy.1 h.1,Agz (fun v hv=>hc v (by simp[hv])) hx.2 hy.2 h.2]
theorem Ag0: ∀{l l':List (ByteArray×Val)},(∀m ∈ l,Al7 m.2)-> ∀{d d':Int},(∀m ∈ l,A9 m.1=true/\Au m.2 d=0)->(∀m ∈ l',A9 m.1=true/\Au m.2 d'=0)->Km l l'=true->l=l'
 | [], [],_,_,_,_,_,_=>rfl
 | [],_::_,_,_,_,_,_,h=>by simp[Km]at h
 |_::_, [],_,_,_,_,_,h=>by simp[Km]at h
 |(k,x)::r,(k',y)::s,hc,d,d',h1,h2,h=>by
  simp only[Km,Nm,Bool.and_eq_true,decide_eq_true_eq]at h;have hx:=(h1 (k,x) (by simp)).2;have hy:=(h2 (k',y) (by simp)).2;have hcx:Al7 x:=hc (k,x) (by simp);rw[h.1.1,hcx y d d' hx hy h.1.2,Ag0 (fun m hm=>hc m (by simp[hm])) (fun m hm=>h1 m (by simp[hm])) (fun m hm=>h2 m (by simp[hm])) h.2]
theorem Aps: ∀a,Al7 a:=by
 refine Val.ind ?_;intro k b n t l o hl ho v d d' hm hm' e;obtain⟨k',b',n',t',l',o'⟩:=v;obtain⟨hodd,_,hvt,hmL,hmO⟩:=Em hm;obtain⟨hodd',_,hvt',hmL',hmO'⟩:=Em hm';simp only[Dj,Bool.and_eq_true,decide_eq_true_eq]at e;obtain⟨hkk,e⟩:=e;subst hkk;obtain⟨hk,p1,p2,p3⟩:=Fa hodd;obtain⟨_,q1,q2,q3⟩:=Fa hodd';obtain⟨p4,p5⟩:=Re hodd;obtain⟨q4,q5⟩:=Re hodd';have nl: ∀{α:Type} {l:List α},l.length=0->l= []:=fun h=>List.length_eq_zero_iff.1 h;have hb:b=b':=by
  by_cases c:k=2
  . rw[if_pos c]at e;simpa using e
  . rw[p4.resolve_left c,q4.resolve_left c]
 have hn:n=n':=by
  by_cases c:k=3
  . rw[if_neg (by omega),if_pos c]at e;simpa using e
  . rw[p5.resolve_left c,q5.resolve_left c]
 have ht:t=t':=by
  by_cases c:k=4
  . rw[if_neg (by omega),if_neg (by omega),if_pos c]at e;simpa using e
  . rw[p1.resolve_left c,q1.resolve_left c]
 have hll:l=l':=by
  by_cases c:k=5
  . rw[if_neg (by omega),if_neg (by omega),if_neg (by omega),if_pos c]at e;exact Agz hl hmL hmL' e
  . rw[nl (p2.resolve_left c),nl (q2.resolve_left c)]
 have hoo:o=o':=by
  by_cases c:k=6
  . rw[if_neg (by omega),if_neg (by omega),if_neg (by omega),if_neg (by omega),if_pos c]at e;exact Ag0 ho (Kb hmO) (Kb hmO') e
  . rw[nl (p3.resolve_left c),nl (q3.resolve_left c)]
 rw[hb,hn,ht,hll,hoo]
theorem Als {a b:Val} {d d':Int} (ha:Au a d=0) (hb:Au b d'=0):Dj a b=true ↔ a=b:=⟨Aps a b d d' ha hb,fun e=>e▸X1 a⟩
mutual
def Apt:Mut->Mut->Bool
 | .mk k key dst n had was has v l,.mk k' key' dst' n' had' was' has' v' l'=>decide (k=k')&&decide (key=key')&&decide (dst=dst')&&decide (n=n')&&(had==had')&&(has==has')&&Dj was was'&&Dj v v'&&Ank l l'
def Ank:List Mut->List Mut->Bool
 | [], []=>true
 | [],_::_=>false
 |_::_, []=>false
 |x::r,y::s=>Apt x y&&Ank r s
end
end Go.Proofs.YtkmcjfkokoidcaaGreatDoor
namespace Go.Proofs.YtkmcjfkokoidcaaGreatDoor
theorem Acr {k:ByteArray} {v:Val} {P A:List A5} (hP: ∀e ∈ P,Dp e.1 k=true) (hA: ∀e ∈ A,Dp k e.1=true):Cf k v (P++A)=P++(k,v)::A:=by
 rw[Qi hP,Xu hA]
def En:List A5->List A5->Bool
 | [], []=>true
 | [],_::_=>false
 |_::_, []=>false
 |(a,x)::r,(b,y)::s=>decide (a=b)&&(Dj x y&&En r s)
theorem Gn: ∀l:List A5,En l l=true
 | []=>rfl
 |(a,x)::r=>by simp only[En,X1,Gn r,decide_true,Bool.and_self]
end Go.Proofs.YtkmcjfkokoidcaaGreatDoor
namespace Go.Proofs.YtkmcjfkokoidcaaGreatDoor
open Go Go.RowKit
section
variable {P:Program} {l n:Nat} {ops:Array Oper} {Q:Exit->Act->World->Prop}
theorem Aio {row:String} {args:Array Value} {w:World} {R:Value->World->Prop} (h:Rows P row args w R):RowsIn (Fence.wide.inRound l) n P row args w R:=fun c cs _=>
 let ⟨v,w',r,s⟩:=h c cs
 ⟨v,w',r,stepsIn_wide.2 s⟩
theorem Afb {o:Oper} {a:Act} {w:World} {K:Act->World->Prop} (hd: ∀c,o.op≠ .defer c) (h:o.wp P a w K Q):o.wpIn (Fence.wide.inRound l) n P a w K Q:=by
 refine⟨fun _ _=>trivial, ?_⟩;rw[Oper.semAt_eq _ _ _ hd];unfold Oper.wp at h;generalize (execOp a.eval o).run P w=r at h
 cases r with
 |ok x w'=>cases x<;>simp only[Oper.upon,Oper.uponIn]at h ⊢ <;>first|exact h|exact⟨fun hh=>(by simp[Fence.wide]at hh),CallsIn.inRound l (callsIn_wide.2 h)⟩|exact⟨fun hh=>(by simp[Fence.wide]at hh),Aio h⟩|exact h.elim
 |halt x w'=>cases x<;>simp only[Oper.upon,Oper.uponIn]at h ⊢ <;>exact h
theorem N8 (hd: ∀(i:Nat) o,ops[i]? =some o-> ∀c,o.op≠ .defer c) (hQ: ¬LetsOut Q): ∀(is:List Nat) (a:Act) (w:World),wpOps P ops Q is a w->wpOpsIn (Fence.wide.inRound l) n P ops Q is a w
 | [],_,_,h=>h
 |i::rest,a,w,h=>by
  simp only[wpOps]at h;simp only[wpOpsIn]
  cases ho:ops[i]? with
  |none=>
   simp only[ho]at h ⊢;exact N8 hd hQ rest a w h
  |some o=>
   simp only[ho]at h ⊢;by_cases hw:Region.wanted o (yielded ops a.tmps)=true
   . simp only[hw,if_true]at h ⊢;rcases h with h|h
     . exact Afb (hd i o ho) (Oper.wp_mono (fun a' w' h'=>N8 hd hQ rest a' w' h') h)
     . exact absurd h.2 hQ
   . simp only[hw]at h ⊢;exact⟨fun _ _=>trivial,N8 hd hQ rest _ w h⟩
theorem S5 {id:Nat} {a:Act} {w:World} {S:World->Prop} (hm:P.follows .mixedOrders=true) (hd:(ops.toList.all fun o=>match o.op with| .defer _=>false|_=>true)=true) (hQ: ¬LetsOut Q) (hS:S w.drew)
 (h:S w.drew->wpAnyH P .any ops Q S ops.size (Array.replicate ops.size false) a w.drew):(Code.region id ops true).wpIn (Fence.wide.inRound l) n P Q a w:=
 wpIn_region_draw fun t=>by
  simp only[Region.schedule,hm,Bool.true_or,if_true];refine N8 (fun i o ho c hc=> ?_) hQ _ _ _ (wpAny_sound ops.size t _ a _ (wpAny_of_held _ _ _ _ (h hS)));have h1:=List.all_eq_true.1 hd o (by rw[<-Array.getElem?_toList]at ho;exact List.mem_of_getElem? ho);rw[hc]at h1
  cases h1
def noP (Q:Exit->Act->World->Prop) (e:Exit) (a:Act) (w:World):Prop:=
 match e with
 | .panic _=>False
 | .normal=>Q .normal a w
 | .ret=>Q .ret a w
 | .exit i=>Q (.exit i) a w
 | .goto i=>Q (.goto i) a w
 | .outgrown=>Q .outgrown a w
theorem Qu {id:Nat} {a:Act} {w:World} {S:World->Prop} (hm:P.follows .mixedOrders=true) (hS:S w.drew) (h:S w.drew->wpAnyH P .any ops (noP Q) S ops.size (Array.replicate ops.size false) a w.drew):(Code.region id ops true).wpIn Fence.wide n P Q a w:=
 wpIn_mono (wpIn_wide.2 (wp_region_held_drew hm hS h)) fun e a w hq=>by
  cases e with
  |panic c=>exact hq.elim
  |normal=>exact hq
  |ret=>exact hq
  |exit i=>exact hq
  |goto i=>exact hq
  |outgrown=>exact hq
end
def Aok (R g:Nat) (s:ByteArray) (w:World) (r:Rd Val) (e:Ending) (w':World):Prop:=match r with
 | .ok _ q=>e=.returned (.tuple #[])/\Br R g s q w w'
 | .bad c q=>e=L9 c q/\w.grownBy w' (some R)
theorem Pi (R g:Nat) (s t:ByteArray) (k:Nat) (v:Val) (w:World) (hs:s.size<=1000000000) (hk:k<=s.size) (ht:t.size<=100) (h:Wk w R g s k):
 Calls Tryz.prog 204 #[.pointer (some ⟨R,0,none⟩),.string t] w (Aok R g s w (Dh s.data.toList k t.data.toList v)):=by
 have hext:(s.extract k s.size).data.toList=s.data.toList.drop k:=by
  rw[Lib.extract_data];exact List.take_of_length_le (by rw[List.length_drop,Al];omega)
 have hH:=fun W=>Tryz.strings_HasPrefix (s.extract k s.size) t W;rw[hext]at hH;have hB:Lib.hasPrefix (s.data.toList.drop k) t.data.toList=t.data.toList.isPrefixOf (s.data.toList.drop k):=rfl;rw[hB]at hH;clear hB hext;have i0:(0:Int)<=(k:Int):=by omega
 have i1:(k:Int)<=(s.size:Int):=by omega
 obtain⟨c0,c1,_,f1,hR⟩:=h.cells;have H:=qz h;clear h;unfold Dh
 cases hp:t.data.toList.isPrefixOf (s.data.toList.drop k)with
 |true=>
  rw[hp]at hH;rw[if_pos rfl,Al];have hle:k+t.size<=s.size:=by
   have:=(List.isPrefixOf_iff_prefix.1 hp).length_le;rw[List.length_drop,Al,Al]at this;omega
  clear hp;have HH:=qz hH;clear hH;go_enter Tryz.func204,Tryz.ntmps204;go_wp2;go_quiet ((go_at_call 247;exact Calls.quiet_of_same (HH.out _)));go_wp2
  go_end0
  exact⟨rfl,((Br.refl H.out).drewN _).set _⟩
 |false=>
  rw[hp]at hH;rw[if_neg (by decide)];clear hp;have HW:=qz (fun W=>Cp (.pointer (some ⟨R,0,none⟩)) 4 k W);have HH:=qz hH;clear hH;go_enter Tryz.func204,Tryz.ntmps204;go_wp2;go_quiet ((go_at_call 247;exact Calls.quiet_of_same (HH.out _)));go_wp2_with (fail);(with_reducible refine(HW.out _).mono ?_);rintro e w1 ⟨rfl,rfl⟩;exact⟨rfl,rfl,F8 (World.grownBy.refl _ _) _⟩
theorem Ahf {c:UInt8} (h:c.toNat<128) (l:List UInt8):Lib.decodeL (c::l)=(c.toNat,1):=by
 rw[Db];unfold Lib.decodeN;rw[if_pos (by simpa using h)];simp
theorem Sf {c:UInt8} {l:List UInt8} (hd: ¬((Lib.decodeL (c::l)).1=65533/\(Lib.decodeL (c::l)).2=1)):(32<=(Lib.decodeL (c::l)).1/\(Lib.decodeL (c::l)).1≠34/\(Lib.decodeL (c::l)).1≠92) ↔ (¬c.toNat<32/\c≠34/\c≠92):=by
 by_cases h:c.toNat<128
 . rw[Ahf h];have e34:c=34 ↔ c.toNat=34:=⟨fun e=>by rw[e];rfl,fun e=>UInt8.toNat_inj.1 e⟩;have e92:c=92 ↔ c.toNat=92:=⟨fun e=>by rw[e];rfl,fun e=>UInt8.toNat_inj.1 e⟩;simp only[ne_eq,e34,e92];omega
 . have hr:128<=(Lib.decodeL (c::l)).1:=by
    have he:=Lib.encode_decode (c::l) (by simp) hd;have hs:=Tp (l:=c::l) (by simp) hd;have hw:=Lib.decodeL_width (c::l);have hc:c ∈ Lib.encodeRune ((Lib.decodeL (c::l)).1:Int):=by
     rw[he];obtain⟨n,hn⟩: ∃n,(Lib.decodeL (c::l)).2=n+1:=⟨(Lib.decodeL (c::l)).2 - 1,by omega⟩;rw[hn];simp
    have:=Gz hs c hc;omega
   have n34:c≠34:=by rintro rfl;exact h (by decide)
   have n92:c≠92:=by rintro rfl;exact h (by decide)
   exact⟨fun _=>⟨by omega,n34,n92⟩,fun _=>⟨by omega,by omega,by omega⟩⟩
theorem Ad7 {s:List UInt8} {i:Nat} (h:i<s.length): ∃c,s[i]? =some c/\s.drop i=c::s.drop (i+1):=by
 refine⟨s[i],List.getElem?_eq_getElem h,List.drop_eq_getElem_cons h⟩
theorem Xt: ∀(n f:Nat) (s:List UInt8) (i:Nat) (out:List UInt8),i<=s.length->s.length - i<f->
 ∃f',s.length - (i+E0 n (s.drop i))<f'/\Ir f s i out=Ir f' s (i+E0 n (s.drop i)) (out++(s.drop i).take (E0 n (s.drop i)))
 |0,f,s,i,out,hi,hf=>⟨f,by simpa[E0]using hf,by simp[E0]⟩
 |n+1,f,s,i,out,hi,hf=>by
  by_cases hlt:i<s.length;rotate_left
  . have e:s.drop i= []:=List.drop_eq_nil_of_le (by omega);refine⟨f, ?_, ?_⟩<;>simp[E0,e]
    omega
  obtain⟨c,hc,hd⟩:=Ad7 hlt;have hne:s.drop i≠ []:=by rw[hd];simp
  simp only[E0];rw[if_neg hne];by_cases h2:(Lib.decodeL (s.drop i)).1=65533/\(Lib.decodeL (s.drop i)).2=1
  . rw[if_pos h2];exact⟨f,by simpa using hf,by simp⟩
  rw[if_neg h2];by_cases h3:32<=(Lib.decodeL (s.drop i)).1/\(Lib.decodeL (s.drop i)).1≠34/\(Lib.decodeL (s.drop i)).1≠92;rotate_left
  . rw[if_neg h3];exact⟨f,by simpa using hf,by simp⟩
  rw[if_pos h3];have hb:=h3;rw[hd]at hb h2;have hb':=(Sf h2).1 hb;rw[<-hd]at h2;obtain⟨f,rfl⟩: ∃g,f=g+1:=⟨f - 1,by omega⟩;have hw:=Lib.decodeL_width (s.drop i);have hle:=Aj2 hlt;have e1:Ir (f+1) s i out=Ir f s (i+(Lib.decodeL (s.drop i)).2) (out++(s.drop i).take (Lib.decodeL (s.drop i)).2):=by
   conv=>lhs;unfold Ir
   rw[hc];simp only;rw[if_neg hb'.2.1,if_neg hb'.1,if_neg hb'.2.2,if_neg h2]
  obtain⟨f',h4,h5⟩:=Xt n f s (i+(Lib.decodeL (s.drop i)).2) (out++(s.drop i).take (Lib.decodeL (s.drop i)).2) hle (by omega);rw[<-List.drop_drop]at h4 h5;refine⟨f',by rw[<-Nat.add_assoc];exact h4, ?_⟩;rw[e1,h5,<-Nat.add_assoc,List.append_assoc,List.take_add]
theorem Afe {n f:Nat} {s:List UInt8} {i:Nat} {out:List UInt8} {c:UInt8} (hc:s[i]? =some c) (h34:c≠34) (h92:c≠92) (hp:E0 (n+1) (s.drop i)=0):Ir (f+1) s i out=.bad (if c.toNat<32 then 4 else 3) i:=by
 have hd:=Iv hc;have hne:s.drop i≠ []:=by rw[hd];simp
 simp only[E0]at hp;rw[if_neg hne]at hp;unfold Ir;rw[hc];simp only;rw[if_neg h34];by_cases h32:c.toNat<32
 . rw[if_pos h32,if_pos h32]
 rw[if_neg h32,if_neg h92,if_neg h32];by_cases h2:(Lib.decodeL (s.drop i)).1=65533/\(Lib.decodeL (s.drop i)).2=1
 . rw[if_pos h2]
 rw[if_neg h2]at hp;have h2':=h2;rw[hd]at h2';have h3:=(Sf h2').2 ⟨h32,h34,h92⟩;rw[<-hd]at h3;rw[if_pos h3]at hp;have:=Lib.decodeL_width (s.drop i);omega
theorem Aj9 {l:List UInt8} {e:Int} {q:Nat} (h:Kl l=.bad e q):e=3\/e=4:=by
 unfold Kl Jg Vn at h
 repeat' split at h
 all_goals first|(simp only[Rd.bad.injEq]at h;omega)|cases h
def Alz (r:Rd (List UInt8)):Value:=match r with
 | .ok a q=> .tuple #[.string ⟨a.toArray⟩,.int .i64 (q:Nat),.int .i64 0]
 | .bad e q=> .tuple #[.string ⟨#[]⟩,.int .i64 (q:Nat),.int .i64 e]
theorem Vi {B g:Nat} {bs:List UInt8} {w:World} (h:BB w B g bs):Calls Tryz.prog 75 #[.pointer (some ⟨g,0,none⟩)] w fun e w'=>e=.returned (.string ⟨bs.toArray⟩)/\Below B w w':=by
 obtain⟨p,v,hB,hb,ht,_,h0,v',h1,hown⟩:=h;simp only[Nat.zero_add]at h1;have hv:v'=v:=by simpa using h1.symm
 subst hv;have hlt:g<w.heap.size:=(Array.getElem?_eq_some_iff.1 hb).1;refine Tryz.Builder_String_any B g bs w ?_ (by omega);have hne:=Lib.ownBlock_ne hown hb ht;have hat: ∀p',p=p'->Lib.BuilderAt 133 5 B g p' (Lib.byteCells bs) w:=fun p' e=>by
  subst e;exact⟨hB,v',hb,by have:=hown;simpa[Lib.byteCells]using this,hne⟩
 rcases h0 with h0|h0
 . exact .inl (hat _ (by simpa using h0))
 . exact .inr (hat _ (by simpa using h0))
def Ans (W:World) (b:Nat) (m:Option Nat):Prop:= ∀mb,m=some mb->b<mb/\W.heap[mb]? =some (.map (Jk D5 0).toArray D5.length)
def UI (s:ByteArray) (w:World) (RES:Rd (List UInt8)) (i:Nat) (m:Option Nat) (wr:World):Prop:=
 ∃out f,Below w.heap.size w wr/\BB wr w.heap.size w.heap.size out/\Ans wr w.heap.size m/\Ir f s.data.toList i out=RES/\s.size - i<f/\out.length<=i
theorem Abl {s:ByteArray} (i:Nat):(s.extract i s.size).data.toList=s.data.toList.drop i:=by
 rw[Lib.extract_data];exact List.take_of_length_le (by rw[List.length_drop,Al];omega)
theorem Ai3 (s:ByteArray) (k:Nat) (w:World) (hT:Cm w) (hs:s.size<=1000000000) (hk:k<=s.size):
 Calls Tryz.prog 248 #[.string s,.int .i64 k] w fun e w'=>e=.returned (Alz (Eg s.data.toList k))/\Below w.heap.size w w':=by
 have hlen:=Al s;have n0: ¬((k:Int)<0):=by omega
 have n1: ¬((s.size:Int)<(k:Int)):=by omega
 by_cases hlt:k<s.size;rotate_left
 . obtain rfl:k=s.size:=by omega
   have e:Eg s.data.toList s.size=.bad 4 s.size:=by unfold Eg;rw[if_neg (by rw[List.getElem?_eq_none (by omega)];simp)]
   rw[e];simp only[Alz];clear e hlen;have HT:=qz hT;clear hT n1 hlt;go_enter Tryz.func248,Tryz.ntmps248;go_wp2
   go_step3
   go_wp2;rw[Exit.noGoto_ret];exact bodyPost_ret (Bj rfl _ _ _) rfl ⟨rfl,Below.refl _ _⟩
 obtain⟨c,hc⟩: ∃c,s[k]=c:=⟨_,rfl⟩;have hg:s.data.toList[k]? =some c:=by rw[Dx s hlt,hc]
 have hcl:=Dr c;have ne: ∀(c:UInt8) (n:Nat),n<256->c≠UInt8.ofNat n->((c.toNat:Int)==(n:Int))=false:=fun c n hn h=>by rw[Pz hn];simpa using h
 have e1:((k:Int)==(s.size:Int))=false:=by rw[beq_eq_false_iff_ne];omega
 by_cases h34:c=34;rotate_left
 . have e:Eg s.data.toList k=.bad 4 k:=by unfold Eg;rw[if_neg (by rw[hg];simpa using h34)]
   rw[e];have e2:=ne c 34 (by decide) h34;simp only[Alz];clear e hlen hg ne h34;have HT:=qz hT;clear hT;go_enter Tryz.func248,Tryz.ntmps248;go_wp2
   go_step3
   go_wp2;rw[Exit.noGoto_ret];exact bodyPost_ret (Bj rfl _ _ _) rfl ⟨rfl,Below.refl _ _⟩
 subst h34;obtain⟨RES,hRES⟩: ∃R,Eg s.data.toList k=R:=⟨_,rfl⟩;rw[hRES];have hF:Ir (s.data.toList.length - k) s.data.toList (k+1) []=RES:=by
  rw[<-hRES];unfold Eg;rw[if_pos hg]
 have hB0:BB (w.alloc (.cells #[.pointer none,.slice none 0 0] 133)) w.heap.size w.heap.size []:=
  ⟨_,_,Nat.le_refl _,heap_alloc_new _ _,by decide,by simp,.inl rfl,.slice none 0 0,rfl,World.ownsRow_nil _ _ _ _⟩
 have H0:Hid (UI s w RES (k+1) none (w.alloc (.cells #[.pointer none,.slice none 0 0] 133))):=⟨[],_,Aa _ _,hB0,fun mb e=>(by cases e),hF,by omega,by simp⟩;clear hRES hF hB0 hg hlen;have d0:decide ((k:Int)<0)=false:=decide_eq_false (by omega);have d1:decide (s.size<k)=false:=decide_eq_false (by omega);clear n0 n1;obtain⟨HT,Ne⟩:=hid2 hT ne;clear hT ne;go_enter Tryz.func248,Tryz.ntmps248;go_wp2
 go_step3
 go_wp2
 go_step3
 go_wp2;go_loopw [7,9] (fun m i wr=> ∃(j:Nat) (mm:Option Nat),m=.map mm/\i=.int .i64 j/\j<=s.size/\Hid (UI s w RES j mm wr)) (fun _ i _=>s.size - (intOf i).toNat)
 case atStart=>exact⟨k+1,none,rfl,by go_num,by omega,H0⟩
 case round=>
  obtain⟨j,mm,rfl,rfl,hj,hI⟩:=hrel;clear H0 e1 hc d0 d1;clear hlt hk;by_cases hlt:j<s.size
  . obtain⟨c,hc⟩: ∃c,s[j]=c:=⟨_,rfl⟩;have hg:s.data.toList[j]? =some c:=by rw[Dx s hlt,hc]
    have hcl:=Dr c;have e1:((j:Int)==(s.size:Int))=false:=by rw[beq_eq_false_iff_ne];omega
    by_cases h34:c=34
    . subst h34;obtain⟨out,f,h1,h2,h3,h4,h5,h6⟩:=hI.out;obtain⟨f,rfl⟩: ∃g,f=g+1:=⟨f - 1,by omega⟩;have hR:RES=.ok out (j+1):=by
       rw[<-h4];unfold Ir;rw[hg];simp
      have HS:=qz (Vi h2);obtain⟨H1,H2,H3,H4,HR⟩:=hid5 h1 h2 h3 h4 hR;clear h1 h2 h3 h4 hR;clear hI hg;go_wp2_with (fail);(with_reducible refine(HS.out).mono ?_);rintro e w2 ⟨rfl,hb2⟩;have hB:=qz (H1.out.trans hb2);clear hb2;go_wp2
      try rw[Exit.noGoto_ret]
      exact bodyPost_ret (Bj rfl _ _ _) rfl ⟨by rw[HR.out];rfl,hB.out⟩
    have e34:=Ne.out c 34 (by decide) h34;by_cases h92:c=92
    . subst h92;obtain⟨out,f,h1,h2,h3,h4,h5,h6⟩:=hI.out;obtain⟨f,rfl⟩: ∃g,f=g+1:=⟨f - 1,by omega⟩;have hR:RES=match Kl (s.data.toList.drop j)with
       | .bad e _=> .bad e j
       | .ok r n=>Ir f s.data.toList (j+n) (out++Lib.encodeRune (r:Int)):=by
       rw[<-h4]
       conv=>lhs;unfold Ir
       rw[hg];simp only;rw[if_neg (by decide),if_neg (by decide),if_pos trivial];rfl
      have hext:=Abl (s:=s) j;have hes:(s.extract j s.size).size<=1000000000:=by rw[ByteArray.size_extract];omega
      have hE:=fun(mb:Nat) (W:World) hm=>Y7 (s.extract j s.size) mb W hes hm;rw[hext]at hE;have hok: ∀r n,Kl (s.data.toList.drop j)=.ok r n->r<=1114111/\2<=n/\j+n<=s.size/\(Lib.encodeRune (r:Int)).length<=n:=fun r n e=>by
       have a1:=Tb e;have a2:=Abk e;rw[List.length_drop,Al]at a1;exact⟨a1.1,a1.2.2.1,by omega,a2⟩
      have hbad: ∀e q,Kl (s.data.toList.drop j)=.bad e q->e=3\/e=4:=fun e q h=>Aj9 h;clear hext hes hg h34;generalize Kl (s.data.toList.drop j)=X at hE hR hok hbad;have hnil:=fun(wx:World) (m0:Option Nat)=>run_eql_map_nil (P:=Tryz.prog) wx 296 _ _ m0 Tryz.underlying296;have key: ∀(W:World) (mb:Nat),Below w.heap.size w W->BB W w.heap.size w.heap.size out->w.heap.size<mb->W.heap[mb]? =some (.map (Jk D5 0).toArray D5.length)-> ∀r n,X=.ok r n->
       Calls Tryz.prog 288 #[.string (s.extract j s.size),.map (some mb)] W (fun e W'=>e=.returned (Su X)/\W=W')/\
       (Calls Tryz.prog 244 #[.pointer (some ⟨w.heap.size,0,none⟩),.int .i32 r] W fun e W'=>(∃k:Int,e=.returned (.tuple #[.int .i64 k,.nilIface]))/\UI s w RES (j+n) (some mb) W'):=by
       intro W mb a1 a2 a3 a4 r n e;refine⟨hE mb W a4, ?_⟩;obtain⟨b1,b2,b3,b4⟩:=hok r n e;refine(Jo (r:Int) (by omega) (by omega) a2 (by omega)).mono ?_;rintro e' W' ⟨hk',hB',hb',hkp⟩;refine⟨hk',out++Lib.encodeRune (r:Int),f,a1.trans hb',hB',fun mb' e2=> ?_, ?_,by omega,by rw[List.length_append];omega⟩
       . cases e2
         exact⟨a3,hkp _ _ a4 (by simp;omega) (fun c fz e=>by cases e)⟩
       . rw[hR,e]
      have hU: ∀W,Calls Tryz.prog 287 #[] W fun e w'=>e=.returned (.map (some W.heap.size))/\W.alloc (.map (Jk D5 0).toArray D5.length)=w':=fun W=>Z7 W;have hz1:=h1.size
      cases X with
      |bad e0 q0=>
       simp only[Su]at hE hR;have hn0:(e0 != 0)=true:=by
        rcases hbad e0 q0 rfl with rfl|rfl<;>decide
       rcases mm with _|mb
       . have hm:=heap_alloc_new wr (.map (Jk D5 0).toArray D5.length);have HE':=qz (hE wr.heap.size _ hm);have Hbw:=qz (h1.alloc hz1 (.map (Jk D5 0).toArray D5.length));obtain⟨HU,H1,H2,H3,H4,HR,Key,Hok,Hm,Hbad⟩:=hid10 hU h1 h2 h3 h4 hR key hok hm hbad;clear hU h1 h2 h3 h4 hR key hok hm hbad;clear hI hE;go_wp2_with (fail);(with_reducible refine(HU.out _).mono ?_);rintro e w2 ⟨rfl,rfl⟩;go_wp2_with (fail);(with_reducible refine(HE'.out).mono ?_);rintro e w2 ⟨rfl,rfl⟩;go_wp2
         try rw[Exit.noGoto_ret]
         exact bodyPost_ret (Bj rfl _ _ _) rfl ⟨by rw[HR.out];rfl,Hbw.out⟩
       . have hE':=hE mb _ (h3 mb rfl).2;obtain⟨HE',HU,H1,H2,H3,H4,HR,Key,Hok,Hbad⟩:=hid10 hE' hU h1 h2 h3 h4 hR key hok hbad;clear hE' hU h1 h2 h3 h4 hR key hok hbad;clear hI hE;go_wp2_with (fail);(with_reducible refine(HE'.out).mono ?_);rintro e w2 ⟨rfl,rfl⟩;go_wp2
         try rw[Exit.noGoto_ret]
         exact bodyPost_ret (Bj rfl _ _ _) rfl ⟨by rw[HR.out];rfl,H1.out⟩
      |ok r n=>
       obtain⟨b1,b2,b3,b4⟩:=hok r n rfl;rcases mm with _|mb
       . obtain⟨k1,k2⟩:=key (wr.alloc (.map (Jk D5 0).toArray D5.length)) wr.heap.size (h1.alloc hz1 _) (h2.below (Aa _ _)) h2.lt (heap_alloc_new wr _) r n rfl;simp only[Su]at k1;obtain⟨HU,H1,H2,H3,H4,HR,Key,Hok,K1,K2,Hbad⟩:=hid11 hU h1 h2 h3 h4 hR key hok k1 k2 hbad;clear hU h1 h2 h3 h4 hR key hok k1 k2 hbad;clear hI hE;go_wp2_with (fail);(with_reducible refine(HU.out _).mono ?_);rintro e w2 ⟨rfl,rfl⟩;go_wp2_with (fail);(with_reducible refine(K1.out).mono ?_);rintro e w2 ⟨rfl,rfl⟩;go_wp2_with (fail);(with_reducible refine(K2.out).mono ?_);rintro e w2 ⟨⟨z,rfl⟩,hu2⟩;have HU2:=qz hu2;clear hu2;go_wp2;go_roundw
         case rel=>exact⟨j+n,_,rfl,by go_num,by omega,HU2⟩
         case measure=>simp[intOf];omega
       . obtain⟨k1,k2⟩:=key wr mb h1 h2 (h3 mb rfl).1 (h3 mb rfl).2 r n rfl;simp only[Su]at k1;obtain⟨HU,H1,H2,H3,H4,HR,Key,Hok,K1,K2,Hbad⟩:=hid11 hU h1 h2 h3 h4 hR key hok k1 k2 hbad;clear hU h1 h2 h3 h4 hR key hok k1 k2 hbad;clear hI hE;go_wp2_with (fail);(with_reducible refine(K1.out).mono ?_);rintro e w2 ⟨rfl,rfl⟩;go_wp2_with (fail);(with_reducible refine(K2.out).mono ?_);rintro e w2 ⟨⟨z,rfl⟩,hu2⟩;have HU2:=qz hu2;clear hu2;go_wp2;go_roundw
         case rel=>exact⟨j+n,_,rfl,by go_num,by omega,HU2⟩
         case measure=>simp[intOf];omega
    ·
     have e92:=Ne.out c 92 (by decide) h92;obtain⟨out,f,h1,h2,h3,h4,h5,h6⟩:=hI.out;have hext:=Abl (s:=s) j;have hsz:(s.extract j s.size).size=s.size - j:=by rw[ByteArray.size_extract];omega
     have hP:=Acq (s.extract j s.size) wr (HT.out.below h1) (by omega);rw[hext,hsz]at hP;obtain⟨nn,hnn⟩: ∃nn,s.size - j=nn+1:=⟨s.size - j - 1,by omega⟩;have hle:=Xs (s.size - j) (s.data.toList.drop j);rw[List.length_drop,Al]at hle;obtain⟨f',q1,q2⟩:=Xt (s.size - j) f s.data.toList j out (by rw[Al];omega) (by rw[Al];omega);rw[Al]at q1;have hnone:E0 (s.size - j) (s.data.toList.drop j)=0->RES=.bad (if c.toNat<32 then 4 else 3) j:=fun e=>by
      obtain⟨g,rfl⟩: ∃g,f=g+1:=⟨f - 1,by omega⟩;rw[hnn]at e;rw[<-h4,Afe hg h34 h92 e]
     generalize hpl:E0 (s.size - j) (s.data.toList.drop j)=p at hP hle q1 q2 hnone;clear hext hsz hnn hg h34 h92 hI hpl;by_cases hp0:p=0
     . subst hp0;have hR:=hnone rfl;have hW:=fun W=>Wa c W;have t0:((0:Int)==0)=true:=rfl;generalize (if c.toNat<32 then(4:Int)else 3)=E at hW hR;obtain⟨HP,H1,H2,H3,H4,HR,HW,Q2,Hnone⟩:=hid9 hP h1 h2 h3 h4 hR hW q2 hnone;clear hP h1 h2 h3 h4 hR hW q2 hnone;go_wp2_with (fail);(with_reducible refine(HP.out).mono ?_);rintro e w2 ⟨rfl,hb2⟩;have hB:=qz (H1.out.trans (hb2.mono H1.out.size));clear hb2;go_wp2_with (fail);(with_reducible refine(HW.out _).mono ?_);rintro e w3 ⟨rfl,rfl⟩;go_wp2
       try rw[Exit.noGoto_ret]
       exact bodyPost_ret (Bj rfl _ _ _) rfl ⟨by rw[HR.out];rfl,hB.out⟩
     . have t0:((p:Int)==0)=false:=by rw[beq_eq_false_iff_ne];omega
       have hex:(s.extract j (j+p)).data.toList=(s.data.toList.drop j).take p:=by rw[Lib.extract_data];congr 1;omega
       have hsx:(s.extract j (j+p)).size=p:=by rw[ByteArray.size_extract];omega
       have hnext: ∀W W',Below wr.heap.size wr W->BB W' w.heap.size w.heap.size (out++(s.extract j (j+p)).data.toList)->Below w.heap.size W W'->Fh w.heap.size W W'->UI s w RES (j+p) mm W':=by
        intro W W' a1 a2 a3 a4;refine⟨_,f',(h1.trans (a1.mono h1.size)).trans a3,a2,fun mb e=> ?_,by rw[hex,<-q2];exact h4,q1,by rw[List.length_append,hex,List.length_take,List.length_drop];omega⟩;obtain⟨b1,b2⟩:=h3 mb e;have hlm:mb<wr.heap.size:=(Array.getElem?_eq_some_iff.1 b2).1;exact⟨b1,a4 _ _ ((a1.block mb hlm).trans b2) (by simp;omega) (fun c fz e=>by cases e)⟩
       have hWS: ∀W,Below wr.heap.size wr W->Calls Tryz.prog 193 #[.pointer (some ⟨w.heap.size,0,none⟩),.string (s.extract j (j+p))] W (fun e W'=>e=.returned (.tuple #[.int .i64 p,.nilIface])/\UI s w RES (j+p) mm W'):=by
        intro W a1;refine(J3 (s.extract j (j+p)) (h2.below a1) (by omega)).mono ?_;rintro e W' ⟨rfl,b1,b2,b3⟩;rw[hsx];exact⟨rfl,hnext W W' a1 b1 b2 b3⟩
       obtain⟨HP,H1,H2,H3,H4,Q2,Hnone,HWS,Hnext⟩:=hid9 hP h1 h2 h3 h4 q2 hnone hWS hnext;clear hP h1 h2 h3 h4 q2 hnone hWS hnext;clear hex hsx;go_wp2_with (fail);(with_reducible refine(HP.out).mono ?_);rintro e w2 ⟨rfl,hb2⟩;have HW2:=qz (HWS.out w2 hb2);have Hb2:=qz hb2;clear hb2;go_wp2_with (fail);(with_reducible refine(HW2.out).mono ?_);rintro e w3 ⟨rfl,hu2⟩;have HU2:=qz hu2;clear hu2;go_wp2;go_roundw
       case rel=>exact⟨j+p,_,rfl,by go_num,by omega,HU2⟩
       case measure=>simp[intOf];omega
  . obtain rfl:j=s.size:=by omega
    obtain⟨out,f,h1,h2,h3,h4,h5,h6⟩:=hI.out;obtain⟨f,rfl⟩: ∃g,f=g+1:=⟨f - 1,by omega⟩;have hR:RES=.bad 4 s.size:=by
     rw[<-h4];unfold Ir;rw[List.getElem?_eq_none (by rw[Al];exact Nat.le_refl _)]
    obtain⟨H1,H2,H3,H4,HR⟩:=hid5 h1 h2 h3 h4 hR;clear h1 h2 h3 h4 hR;clear hI;go_wp2
    try rw[Exit.noGoto_ret]
    exact bodyPost_ret (Bj rfl _ _ _) rfl ⟨by rw[HR.out];rfl,H1.out⟩
def Aoi (R g:Nat) (s:ByteArray) (w:World) (r:Rd (List UInt8)) (e:Ending) (w':World):Prop:=match r with
 | .ok a q=>e=.returned (.string ⟨a.toArray⟩)/\Br R g s q w w'
 | .bad c q=>e=L9 c q/\w.grownBy w' (some R)
def Gv (R g:Nat) (s:ByteArray) (w:World) (r:Rd Val) (e:Ending) (w':World):Prop:=match r with
 | .ok v q=>(∃cs:List Value,e=.returned (.agg cs.toArray)/\Ch w.heap.size w' (dV v) cs)/\Br R g s q w w'
 | .bad c q=>e=L9 c q/\w.grownBy w' (some R)
theorem Fo {b:Nat} {w:World} (k:Int) (c:Bool) (n:Int) (t:ByteArray):Ch b w (dV (.mk k c n t [] [])) [.int .i64 k,.bool c,.int .i64 n,.string t,.slice none 0 0,.slice none 0 0]:=fun w'' _ _=>by
 refine Ej _ _ ?_;simp only[Ac];exact⟨none,0,none,0,rfl,by simp,by simp⟩
theorem Ai2 {s:List UInt8} {p:Nat} {e:Int} {q:Nat} (hp:p<=s.length) (h:Eg s p=.bad e q):1<=e:=by
 have:=Hs hp;rw[h]at this;exact this.2.2.1
theorem I0 (R g:Nat) (s:ByteArray) (k:Nat) (w:World) (hT:Cm w) (hs:s.size<=1000000000) (hk:k<=s.size) (h:Wk w R g s k):
 Calls Tryz.prog 205 #[.pointer (some ⟨R,0,none⟩)] w (Aoi R g s w (Eg s.data.toList k)):=by
 have hU:=fun(W:World) (hB:Below w.heap.size w W)=>Ai3 s k W (hT.below hB) hs hk;obtain⟨c0,c1,_,f1,hR⟩:=h.cells
 cases hr:Eg s.data.toList k with
 |ok a q=>
  rw[hr]at hU;simp only[Alz]at hU;have t0:((0:Int) != 0)=false:=rfl;obtain⟨HU,H,HT,Hr⟩:=hid4 hU h hT hr;clear hU h hT hr;go_enter Tryz.func205,Tryz.ntmps205;go_wp2
  go_region_held3 (fun W=>W.cell? ⟨R,0,none⟩=some (.string s)/\W.cell? ⟨R,1,none⟩=some (.int .i64 k)) (go_keep) (first|(go_at_call 248;refine(HU.out _ (Below.drew (Below.refl _ _))).mono ?_;rintro e w1 ⟨rfl,hb1⟩;have hbr1:Below w.heap.size w w1:=(Below.drew (Below.refl _ _)).trans hb1;obtain⟨hc1,hf1⟩:=Yu hbr1))
  all_goals
   have hB:Br R g s k w w1:=(Br.refl H.out).below hbr1;obtain⟨d0,d1,_,d2,d3⟩:=hB.2.cells;have HB:=qz hB;clear hB;clear hc1 hf1 hb1 hbr1;go_wp2;go_ret;exact⟨rfl,HB.out.set q⟩
 |bad c q=>
  have hc1:=Ai2 (by rw[Al];exact hk) hr;rw[hr]at hU;simp only[Alz]at hU;have t0:(c != 0)=true:=by rw[bne_iff_ne];omega
  have HW:=qz (fun W=>Cp (.pointer (some ⟨R,0,none⟩)) c q W);obtain⟨HU,H,HT,Hr⟩:=hid4 hU h hT hr;clear hU h hT hr;go_enter Tryz.func205,Tryz.ntmps205;go_wp2
  go_region_held3 (fun W=>W.cell? ⟨R,0,none⟩=some (.string s)/\W.cell? ⟨R,1,none⟩=some (.int .i64 k)) (go_keep) (first|(go_at_call 248;refine(HU.out _ (Below.drew (Below.refl _ _))).mono ?_;rintro e w1 ⟨rfl,hb1⟩;have hbr1:Below w.heap.size w w1:=(Below.drew (Below.refl _ _)).trans hb1;obtain⟨hc1,hf1⟩:=Yu hbr1))
  all_goals
   have hB:=qz hbr1;clear hc1 hf1 hb1 hbr1;go_wp2_with (fail);(with_reducible refine(HW.out _).mono ?_);rintro e w2 ⟨rfl,rfl⟩;exact⟨rfl,rfl,Q3 _ hB.out⟩
theorem Br.unAlloc {R g q:Nat} {s:ByteArray} {w w1:World} {o:Obj} (h:Br R g s q (w.alloc o) w1):Br R g s q w w1:=⟨Ck (Iw (World.grownBy.refl _ _) o) h.1,h.2⟩
theorem Gi {R:Option Nat} {w w1:World} {o:Obj} (h:(w.alloc o).grownBy w1 R):w.grownBy w1 R:=Ck (Iw (World.grownBy.refl _ _) o) h
theorem Br.many {R g q B:Nat} {s:ByteArray} {w:World} (hB:w.heap.size<=B) (hR:R<w.heap.size): ∀(vs:List Value) (o:Nat) {w1:World},Br R g s q w w1->Br R g s q w (Ak w1 B o vs)
 | [],_,_,h=>h
 |v::vs,o,w1,h=>Br.many hB hR vs (o+1) ⟨M7 h.1 ⟨B,o,none⟩ (.inr hB) v,Aj.far h.2 (by show R≠B;omega) v⟩
theorem Br.res {R g q:Nat} {s:ByteArray} {w w1:World} {t:TypeId} {cs:Array Value} (h:Br R g s q (w.alloc (.cells cs t)) w1) (hR:R<w.heap.size):Aj w1 w.heap.size t cs:=(Aj.new w t cs).grown h.1 (by intro e;cases e;omega)
theorem Rk {s:List UInt8} {p q:Nat} {l:List UInt8} {v v':Val} (h:Dh s p l v=.ok v' q):v'=v:=by
 unfold Dh at h
 split at h
 . cases h;rfl
 . cases h
theorem Zz (R g:Nat) (s:ByteArray) (k:Nat) (d:Int) (w:World) (hT:Cm w) (hs:s.size<=1000000000) (hk:k<=s.size) (h:Wk w R g s k):
 Calls Tryz.prog 147 #[.pointer (some ⟨R,0,none⟩),.int .i64 d] w (Gv R g s w ((Eg s.data.toList k).map Ade)):=by
 have hR:R<w.heap.size:=Aj.lt h;have hQ:=I0 R g s k (w.alloc (.cells Bk 37)) (hT.below (Aa _ _)) hs hk (Aj.alloc h _)
 cases hr:Eg s.data.toList k with
 |ok a q=>
  rw[hr]at hQ;simp only[Rd.map];clear hr hT h;have HQ:=qz hQ;clear hQ;go_enter Tryz.func147,Tryz.ntmps147;go_wp2_with (fail);(with_reducible refine(HQ.out).mono ?_);rintro e w1 ⟨rfl,h1⟩;have hxr:=h1.res hR;have H1':=qz h1.unAlloc;have hlt:=hxr.lt;obtain⟨c0,c1,c2,c3,c4,c5⟩:=Bp hxr;have fz:=hxr.frozen;obtain⟨Hxr,H1⟩:=hid2 hxr h1;clear hxr h1;dsimp only
  repeat go_step
  have hxf:=((((((Hxr.out.set_ 0 (.int .i64 4)).set_ 1 (.bool false)).set_ 2 (.int .i64 0)).set_ 3 (.string ⟨a.toArray⟩)).set_ 4 (.slice none 0 0)).set_ 5 (.slice none 0 0));exact bodyPost_ret (Cy rfl rfl hxf) rfl ⟨⟨_,rfl,Fo 4 false 0 _⟩,Br.many (Nat.le_refl _) hR [.int .i64 4,.bool false,.int .i64 0,.string ⟨a.toArray⟩,.slice none 0 0,.slice none 0 0] 0 H1'.out⟩
 |bad c q=>
  rw[hr]at hQ;simp only[Rd.map];clear hr hT h;have HQ:=qz hQ;clear hQ;go_enter Tryz.func147,Tryz.ntmps147;go_wp2_with (fail);(with_reducible refine(HQ.out).mono ?_);rintro e w1 ⟨rfl,h1⟩;exact⟨rfl,rfl,Gi h1⟩
theorem Ae9 (R g:Nat) (s:ByteArray) (k:Nat) (d:Int) (w:World) (hs:s.size<=1000000000) (hk:k<=s.size) (h:Wk w R g s k):
 Calls Tryz.prog 144 #[.pointer (some ⟨R,0,none⟩),.int .i64 d] w (Gv R g s w (Dh s.data.toList k [110,117,108,108] Nb)):=by
 have hR:R<w.heap.size:=Aj.lt h;have hQ:=Pi R g s ⟨#[110,117,108,108]⟩ k Nb (w.alloc (.cells Bk 37)) hs hk (by decide) (Aj.alloc h _);dsimp only at hQ
 cases hr:Dh s.data.toList k [110,117,108,108] Nb with
 |ok a q=>
  obtain rfl:=Rk hr;rw[hr]at hQ;clear hr h;have HQ:=qz hQ;clear hQ;go_enter Tryz.func144,Tryz.ntmps144;go_wp2_with (fail);(with_reducible refine(HQ.out).mono ?_);rintro e w1 ⟨rfl,h1⟩;have hxr:=h1.res hR;have H1':=qz h1.unAlloc;have hlt:=hxr.lt;obtain⟨c0,c1,c2,c3,c4,c5⟩:=Bp hxr;have fz:=hxr.frozen;obtain⟨Hxr,H1⟩:=hid2 hxr h1;clear hxr h1;dsimp only
  repeat go_step
  have hxf:=((((((Hxr.out.set_ 0 (.int .i64 1)).set_ 1 (.bool false)).set_ 2 (.int .i64 0)).set_ 3 (.string ⟨#[]⟩)).set_ 4 (.slice none 0 0)).set_ 5 (.slice none 0 0));exact bodyPost_ret (Cy rfl rfl hxf) rfl ⟨⟨_,rfl,Fo 1 false 0 _⟩,Br.many (Nat.le_refl _) hR [.int .i64 1,.bool false,.int .i64 0,.string ⟨#[]⟩,.slice none 0 0,.slice none 0 0] 0 H1'.out⟩
 |bad c q=>
  rw[hr]at hQ;clear hr h;have HQ:=qz hQ;clear hQ;go_enter Tryz.func144,Tryz.ntmps144;go_wp2_with (fail);(with_reducible refine(HQ.out).mono ?_);rintro e w1 ⟨rfl,h1⟩;exact⟨rfl,rfl,Gi h1⟩
theorem Aja (R g:Nat) (s:ByteArray) (k:Nat) (d:Int) (w:World) (hs:s.size<=1000000000) (hk:k<=s.size) (h:Wk w R g s k):
 Calls Tryz.prog 146 #[.pointer (some ⟨R,0,none⟩),.int .i64 d] w (Gv R g s w (Dh s.data.toList k [116,114,117,101] (Ia true))):=by
 have hR:R<w.heap.size:=Aj.lt h;have hQ:=Pi R g s ⟨#[116,114,117,101]⟩ k (Ia true) (w.alloc (.cells Bk 37)) hs hk (by decide) (Aj.alloc h _);dsimp only at hQ
 cases hr:Dh s.data.toList k [116,114,117,101] (Ia true)with
 |ok a q=>
  obtain rfl:=Rk hr;rw[hr]at hQ;clear hr h;have HQ:=qz hQ;clear hQ;go_enter Tryz.func146,Tryz.ntmps146;go_wp2_with (fail);(with_reducible refine(HQ.out).mono ?_);rintro e w1 ⟨rfl,h1⟩;have hxr:=h1.res hR;have H1':=qz h1.unAlloc;have hlt:=hxr.lt;obtain⟨c0,c1,c2,c3,c4,c5⟩:=Bp hxr;have fz:=hxr.frozen;obtain⟨Hxr,H1⟩:=hid2 hxr h1;clear hxr h1;dsimp only
  repeat go_step
  have hxf:=((((((Hxr.out.set_ 0 (.int .i64 2)).set_ 1 (.bool true)).set_ 2 (.int .i64 0)).set_ 3 (.string ⟨#[]⟩)).set_ 4 (.slice none 0 0)).set_ 5 (.slice none 0 0));exact bodyPost_ret (Cy rfl rfl hxf) rfl ⟨⟨_,rfl,Fo 2 true 0 _⟩,Br.many (Nat.le_refl _) hR [.int .i64 2,.bool true,.int .i64 0,.string ⟨#[]⟩,.slice none 0 0,.slice none 0 0] 0 H1'.out⟩
 |bad c q=>
  rw[hr]at hQ;clear hr h;have HQ:=qz hQ;clear hQ;go_enter Tryz.func146,Tryz.ntmps146;go_wp2_with (fail);(with_reducible refine(HQ.out).mono ?_);rintro e w1 ⟨rfl,h1⟩;exact⟨rfl,rfl,Gi h1⟩
theorem Ak1 (R g:Nat) (s:ByteArray) (k:Nat) (d:Int) (w:World) (hs:s.size<=1000000000) (hk:k<=s.size) (h:Wk w R g s k):
 Calls Tryz.prog 145 #[.pointer (some ⟨R,0,none⟩),.int .i64 d] w (Gv R g s w (Dh s.data.toList k [102,97,108,115,101] (Ia false))):=by
 have hR:R<w.heap.size:=Aj.lt h;have hQ:=Pi R g s ⟨#[102,97,108,115,101]⟩ k (Ia false) (w.alloc (.cells Bk 37)) hs hk (by decide) (Aj.alloc h _);dsimp only at hQ
 cases hr:Dh s.data.toList k [102,97,108,115,101] (Ia false)with
 |ok a q=>
  obtain rfl:=Rk hr;rw[hr]at hQ;clear hr h;have HQ:=qz hQ;clear hQ;go_enter Tryz.func145,Tryz.ntmps145;go_wp2_with (fail);(with_reducible refine(HQ.out).mono ?_);rintro e w1 ⟨rfl,h1⟩;have hxr:=h1.res hR;have H1':=qz h1.unAlloc;have hlt:=hxr.lt;obtain⟨c0,c1,c2,c3,c4,c5⟩:=Bp hxr;have fz:=hxr.frozen;obtain⟨Hxr,H1⟩:=hid2 hxr h1;clear hxr h1;dsimp only
  repeat go_step
  have hxf:=((((((Hxr.out.set_ 0 (.int .i64 2)).set_ 1 (.bool false)).set_ 2 (.int .i64 0)).set_ 3 (.string ⟨#[]⟩)).set_ 4 (.slice none 0 0)).set_ 5 (.slice none 0 0));exact bodyPost_ret (Cy rfl rfl hxf) rfl ⟨⟨_,rfl,Fo 2 false 0 _⟩,Br.many (Nat.le_refl _) hR [.int .i64 2,.bool false,.int .i64 0,.string ⟨#[]⟩,.slice none 0 0,.slice none 0 0] 0 H1'.out⟩
 |bad c q=>
  rw[hr]at hQ;clear hr h;have HQ:=qz hQ;clear hQ;go_enter Tryz.func145,Tryz.ntmps145;go_wp2_with (fail);(with_reducible refine(HQ.out).mono ?_);rintro e w1 ⟨rfl,h1⟩;exact⟨rfl,rfl,Gi h1⟩
end Go.Proofs.YtkmcjfkokoidcaaGreatDoor
