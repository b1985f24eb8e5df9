/- Parts: What Exact comes to. No condition. -/
import Derived.Test.YtjgfchcldhmjcaaGreatDoorKPp26
set_option maxHeartbeats 20000000
set_option maxRecDepth 100000
namespace Go.Proofs.YtjgfchcldhmjcaaGreatDoor
open Go Go.RowKit
def Aek {α β:Type} (P:Program) (gf:Nat) (lb:Array Value) (encs:α->β->Array Value) (E:α->β->(Nat->Prop)->World->Prop) (K0:Nat->Prop) (xs:List α) (N:World->Prop):Prop:=
 ∀(n l:Nat) (J:List α->(Nat->Prop)->(Nat->Prop)->World->Prop) (W:World),
  (∀s T K A T' K' B,J s T K A->KB T A B->(∀i,i<A.heap.size->(T' i ↔ T i)/\(K' i ↔ K i))->(∀i,K' i->i<B.heap.size)->J s T' K' B)->
  (∀pre x rest q T K A,xs=pre++x::rest->J pre T K A->E x q (fun i=>K i/\ ¬T i) A->(∀i,T i->K i)->(∀i,K i->i<A.heap.size)->YieldAt Fence.wide n P l (encs x q) A fun e B=>e=.returned (.bool true)/\J (pre++ [x]) T K B/\KB (fun i=> ¬K i) A B)->
  N W->J [] (fun _=>False) K0 W->CallsIn Fence.wide (n+1) P gf (#[.func (.yield l) #[] #[]]++lb) W fun e B=>(∃v,e=.returned v)/\ ∃T K,J xs T K B
theorem KB.put {S:Nat->Prop} (w:World) {k:Nat} (b:S k) (o:Obj):KB S w (w.putObj k o):=⟨rfl,rfl,rfl,by simp[World.putObj],fun j _ a=>World.putObj_heap_other (fun e=>a (e▸b))⟩
theorem Ad8 {G β:Type} {P:Program} {g:Operand} {ps:Array Tmp} {assign body:Code} {Q:Exit->Act->World->Prop} {a:Act} {w:World} {n:Nat}
 {gf:Nat} {lb:Array Value} (hg:a.eval g=.func (.func gf) #[] lb) (eg: ∀args w,(callFunc gf args).run P w=.ok (.enter gf args) w)
 {f:G->β->Array Value} {E:G->β->(Nat->Prop)->World->Prop} {K0:Nat->Prop} {xs:List G} {N:World->Prop} (am:Aek P gf lb f E K0 xs N) (ap: ∀x q,(f x q).size=ps.size)
 (hEp: ∀x q D A k o',E x q D A-> ¬D k->E x q D (A.putObj k o')) (hK0: ∀i,K0 i->i<w.heap.size)
 (I:List G->(Nat->Prop)->(Nat->Prop)->World->Prop)
 (hIn: ∀s T K A T' K' B,I s T K A->KB T A B->(∀i,i<A.heap.size->(T' i ↔ T i)/\(K' i ↔ K i))->(∀i,K' i->i<B.heap.size)->I s T' K' B)
 (hIp: ∀s T K A k o o',I s T K A->A.heap[k]? =some o->o.isCells=false-> ¬K k->w.heap.size<=k->I s T K (A.putObj k o'))
 (af: ∀x q D A B,E x q D A->Below A.heap.size A B->E x q D B) (hN: ∀W,Below w.heap.size w W->N W) (h0:I [] (fun _=>False) K0 w) (RB:G->β->Act->World->Prop)
 (hRp: ∀x q C A k o o',RB x q C A->A.heap[k]? =some o->o.isCells=false->RB x q C (A.putObj k o'))
 (m: ∀(l:Nat) (x:G) (q:β) (D:Nat->Prop) (W:World) (K:Act->World->Prop),E x q D W->(∀C J,Below W.heap.size W J->RB x q C J->K C J)->
   assign.wpIn (Fence.wide.inRound l) n P (Exit.then K (fun _ _ _=>False)) {tmps:=(ps.zip (f x q)).foldl (fun t (p,v)=>t.setIfInBounds p v) a.tmps,defers:= []} W)
 (L: ∀(l:Nat) (pre:List G) (x:G) (rest:List G) (q:β) (T K:Nat->Prop) (C:Act) (W:World),RB x q C W->xs=pre++x::rest->I pre T K W->E x q (fun i=>K i/\ ¬T i) W->(∀i,T i->K i)->(∀i,K i->i<W.heap.size)->
   ¬K w.heap.size-> ¬K (w.heap.size+1)->(∃ds,W.heap[w.heap.size]? =some (.deferred ds))->(∃r,W.heap[w.heap.size+1]? =some (.loop r))->
   body.wpIn (Fence.wide.inRound l) n P (P7 (fun B=>I (pre++ [x]) T K B/\KB (fun i=> ¬K i) W B) w.heap.size W) C W)
 (M: ∀(T K:Nat->Prop) (W:World),I xs T K W-> ¬K w.heap.size->W.heap[w.heap.size]? =some (.deferred (some []))->Q .normal {a with defers:={target:=.collected w.heap.size,args:= #[]}::a.defers} W):
 (Code.rangeFunc g ps assign body).wpIn Fence.wide (n+1+1) P Q a w:=by
 refine wpIn_rangeFunc ?_;intro fn ar;have aq:Fence.wide.round=none:=rfl;rw[aq];obtain⟨rec,b⟩: ∃rec:LoopState->Option Code->Loop,rec=fun st pe=>{state:=st,pending:=pe,fn,tmps:=a.tmps,params:=ps,assign,body,defers:=w.heap.size}:=⟨_,rfl⟩;obtain⟨z,F⟩: ∃z,(w.alloc (.deferred (some []))).alloc (.loop (rec .ready none))=z:=⟨_,rfl⟩;have ai:z.heap[w.heap.size+1]? =some (.loop (rec .ready none)):=by
  rw[<-F];have:=World.alloc_heap_new (w.alloc (.deferred (some []))) (.loop (rec .ready none));rwa [World.size_alloc]at this
 have ah:z.heap[w.heap.size]? =some (.deferred (some [])):=by
  rw[<-F];exact(Below.heap_alloc _ _ _ (by simp)).trans (World.alloc_heap_new w _)
 have c:Below w.heap.size w z:=F▸((Below.refl _ w).alloc (Nat.le_refl _) _).alloc (by simp) _;have ag:I [] (fun _=>False) K0 z:=hIn _ _ _ _ _ _ _ h0 (KB.of_below c) (fun _ _=>⟨Iff.rfl,Iff.rfl⟩) fun i u=>Nat.lt_of_lt_of_le (hK0 i u) c.size;refine⟨w.heap.size+1, [{target:=.collected w.heap.size,args:= #[]}],z,{target:=.fn (.func gf) lb,args:= #[.func (.yield (w.heap.size+1)) #[] #[]]},z,gf,
  #[.func (.yield (w.heap.size+1)) #[] #[]]++lb,z, ?_, ?_, ?_, ?_,fun h=>by simp[Fence.wide]at h, ?_⟩
 . rw[<-F,b];exact run_enterLoop_outer _ _ _ _ _
 . simp only[resolve,hg];simp[go_sem]
 . intro f' _;trivial
 . simp[invoke,go_sem,eg]
 . refine(am n (w.heap.size+1)
    (fun pre T K W=>I pre T K W/\W.heap[w.heap.size+1]? =some (.loop (rec .ready none))/\W.heap[w.heap.size]? =some (.deferred (some []))/\ ¬T w.heap.size/\ ¬T (w.heap.size+1)/\ ¬K w.heap.size/\ ¬K (w.heap.size+1)/\ ∀i,K i->i<W.heap.size)
    z ?_ ?_ (hN _ c) ⟨ag,ai,ah,fun h=>h,fun h=>h,fun h=>by have:=hK0 _ h;omega,fun h=>by have:=hK0 _ h;omega,fun i u=>Nat.lt_of_lt_of_le (hK0 i u) c.size⟩).mono ?_
   . rintro s T K A T' K' B ⟨j1,j2,j3,j4,j5,X,y,j8⟩ hb d Y;have z2:=(Array.getElem?_eq_some_iff.1 j2).1;have z3:=(Array.getElem?_eq_some_iff.1 j3).1;exact⟨hIn _ _ _ _ _ _ _ j1 hb d Y,(hb.block _ z2 j5).trans j2,(hb.block _ z3 j4).trans j3,fun h=>j4 ((d _ z3).1.1 h),fun h=>j5 ((d _ z2).1.1 h),fun h=>X ((d _ z3).2.1 h),fun h=>y ((d _ z2).2.1 h),Y⟩
   ·
    rintro pre x rest q T K W hx ⟨u,O,hk,j4,j5,X,y,j8⟩ hE d _;have U:w.heap.size+1<W.heap.size:=(Array.getElem?_eq_some_iff.1 O).1;have hy:=run_yield (P:=P) (args:=f x q) O (by rw[b];exact ap x q);rw[b]at hy;refine⟨fn,_,assign,body,hy,roundIn_of_wpIn trivial (m _ x q _ W _ hE fun C J c aj=>⟨_,run_beginRound ((c.block _ U).trans O) (by rw[b]), ?_⟩)⟩;have ad:=Nat.lt_of_lt_of_le U c.size;have ac:=(c.block _ U).trans O;have ao:=(c.block _ (by omega)).trans hk;have al:=hIn _ _ _ _ T K _ u (KB.of_below c) (fun _ _=>⟨Iff.rfl,Iff.rfl⟩) fun i h=>Nat.lt_of_lt_of_le (j8 i h) c.size;have ae:=af _ _ _ _ _ hE c;have ab:(J.putObj (w.heap.size+1) (.loop {rec .ready none with state:=.busy})).heap[w.heap.size+1]? =some (.loop {rec .ready none with state:=.busy}):=World.putObj_heap_same ad;have Z:(J.putObj (w.heap.size+1) (.loop {rec .ready none with state:=.busy})).heap[w.heap.size]? =some (.deferred (some [])):=(World.putObj_heap_other (by omega)).trans ao;have H:=(KB.of_below (S:=fun i=> ¬K i) c).trans (KB.put (S:=fun i=> ¬K i) J (k:=w.heap.size+1) y (.loop {rec .ready none with state:=.busy})) fun _ _ h=>h;refine wpIn_mono (L _ pre x rest q T K C _ (hRp _ _ _ _ _ _ _ aj ac rfl) hx (hIp _ _ _ _ _ _ _ al ac rfl y (by omega)) (hEp _ _ _ _ _ _ ae fun h=>y h.1) d (fun i u=>Nat.lt_of_lt_of_le (j8 i u) H.size) X y ⟨_,Z⟩ ⟨_,ab⟩) ?_;rintro e a3 W3 V
    cases e with
    |normal=>
     obtain⟨h1,h2,ak,aa⟩:=V;have R:=h2.trans ab;have an:=h1.trans Z;have hr:=run_endRound (P:=P) none R;rw[b]at hr;have j:=(H.trans aa fun _ _ h=>h).trans (KB.put (S:=fun i=> ¬K i) W3 (k:=w.heap.size+1) y (.loop {rec .ready none with state:=.ready})) fun _ _ h=>h;refine⟨_,_,hr,rfl,⟨hIp _ _ _ _ _ _ _ ak R rfl y (by omega), ?_, ?_,j4,j5,X,y,fun i u=>Nat.lt_of_lt_of_le (j8 i u) ?_⟩, ?_⟩
     . rw[World.putObj_heap_same (Array.getElem?_eq_some_iff.1 R).1,b];rfl
     . exact(World.putObj_heap_other (by omega)).trans an
     . rw[b]at j;exact j.size
     . rw[b]at j;exact j
    |ret=>exact V.elim
    |exit id=>exact V.elim
    |goto t=>exact V.elim
    |panic ch=>exact V.elim
    |outgrown=>exact V.elim
   ·
    rintro e W2 ⟨⟨v,rfl⟩,T,K,u,O,hk,_,_,X,y,_⟩;exact⟨none,_,by have:=run_endLoop (P:=P) O (by rw[b];simp);rw[b]at this;exact this,M T K _ (hIp _ _ _ _ _ _ _ u O rfl y (by omega)) X ((World.putObj_heap_other (by omega)).trans hk)⟩
theorem All {P:Program} {c:Code} {Q:Exit->Act->World->Prop} {a:Act} {w:World} (h: ∀b:Exit->Act->World->Prop,Hid (∀e a w,NoPanic Q e a w->b e a w)->(∀c a d v w,b (.panic c) (Act.put a d v) w->b (.panic c) a w)->Code.wp P c b a w):Code.wp P c Q a w:=
 Code.wp_mono NoPanic.imp (h (NoPanic Q) (qz fun _ _ _ h=>h) (fun _ _ _ _ _ h=>h))
theorem Xa (W:World) (v:Value):(Instr.typeAssert (.iface 149 v) 20 149 true).run Tryz.prog W=.ok (.tuple #[v,.bool true]) W:=by kernel_rfl
theorem Aat (c d f:Addr) (w:World):
 CallsD Tryz.prog 79 #[.pointer (some c),.pointer (some d),.pointer (some f)] .returning w fun e g w'=>e=.returned (.tuple #[])/\g=.returning/\w'=w:=by
 refine callsD_of_wpS Tryz.func79 rfl fun a cs b=> ?_;apply wpS_seq;apply wpS_region;simp[wpOpsS,go_sem,recoverD,b,Tryz.ntmps79,Exit.thenS];refine wpS_of_wp ?_;go_wp2
 cases a
 simp_all[bodyPostS,results,Tryz.results79]
theorem Rc (w W:World) (p r s t u x G I:Value) (e q:Int) (h:P3 w W #[p,r,s,t,u,x] G I):
 CallsD Tryz.prog 79 #[.pointer (some ⟨w.heap.size,0,none⟩),.pointer (some ⟨w.heap.size+1,0,none⟩),.pointer (some ⟨w.heap.size+2,0,none⟩)] (.panicking [{v:=.iface 149 (.agg #[.int .i64 e,.int .i64 q]),recovered:=false}]) W fun y F w'=>
  y=.returned (.tuple #[])/\F=.panicking [{v:=.iface 149 (.agg #[.int .i64 e,.int .i64 q]),recovered:=true}]/\P3 w w' Al (.int .i64 q) (.int .i64 e):=by
 have j:=fun w=>Xa w (.agg #[.int .i64 e,.int .i64 q]);have a:=qz (h.later (Aa W (.cells #[.int .i64 e,.int .i64 q] 149)));have i:=qz (Ap.new W 149 #[.int .i64 e,.int .i64 q]);have C:=h.blkC.lt;have H:=qz h;clear h;refine callsD_of_wpS Tryz.func79 rfl fun g cs E=> ?_;apply wpS_seq;apply wpS_region;simp[wpOpsS,go_sem,recoverD,E,Tryz.ntmps79,Exit.thenS];refine wpS_of_wp ?_;refine All fun P k D=> ?_;have d: ∀(b:Value),(#[.pointer (some ⟨w.heap.size,0,none⟩),.pointer (some ⟨w.heap.size+1,0,none⟩),.pointer (some ⟨w.heap.size+2,0,none⟩)]:Array Value)++((Array.replicate 14 undef).setIfInBounds 3 b)= #[.pointer (some ⟨w.heap.size,0,none⟩),.pointer (some ⟨w.heap.size+1,0,none⟩),.pointer (some ⟨w.heap.size+2,0,none⟩),undef,undef,undef,b,undef,undef,undef,undef,undef,undef,undef,undef,undef,undef]:=fun _=>rfl;simp only[d];clear d;go_wp2;clear j H;generalize W.alloc (.cells #[.int .i64 e,.int .i64 q] 149)=wi at a i ⊢;generalize W.heap.size=g3 at i C ⊢;obtain⟨J,K,L,M,N,O⟩:=At a.out.blkA;have B:=a.out.blkA.frozen;have n:=a.out.blkB.cell 0;have A:=a.out.blkB.frozen 0;have o:=a.out.blkC.cell 0;have z:=a.out.blkC.frozen 0;have l:=i.out.cell 0;have m:=i.out.cell 1;have Q:w.heap.size≠g3:=by omega
 have R:w.heap.size+1≠g3:=by omega
 have S:w.heap.size+2≠g3:=by omega
 simp only[List.getElem?_toArray,List.getElem?_cons_zero,List.getElem?_cons_succ]at n o l m
 go_region_held3 (fun X=>X.cell? ⟨g3,0,none⟩=some (.int .i64 e)/\X.cell? ⟨g3,1,none⟩=some (.int .i64 q)) (go_keep) (fail)
 all_goals
  clear l m J K L M N O n o B A z;have c:P3 w (((((((((wi.setCell ⟨w.heap.size,0,none⟩ (.int .i64 0)).setCell ⟨w.heap.size,1,none⟩ (.bool false)).setCell ⟨w.heap.size,2,none⟩ (.int .i64 0)).setCell ⟨w.heap.size,3,none⟩ (.string ⟨#[]⟩)).setCell ⟨w.heap.size,4,none⟩ (.slice none 0 0)).setCell ⟨w.heap.size,5,none⟩ (.slice none 0 0)).setCell ⟨w.heap.size+1,0,none⟩ (.int .i64 q)).setCell ⟨w.heap.size+2,0,none⟩ (.int .i64 e)).drew) Al (.int .i64 q) (.int .i64 e):=
   (((a.out.setA (.int .i64 0) (.bool false) (.int .i64 0) (.string ⟨#[]⟩) (.slice none 0 0) (.slice none 0 0)).setB (.int .i64 q)).setC (.int .i64 e)).later (Below.drew (Below.refl _ _))
  have f:=qz c;clear c;go_wp2;refine k.out _ _ _ ?_;clear D k
  cases g
  simp_all[bodyPostS,results,Tryz.results79,NoPanic];exact f.out
theorem P3.grown {w W b:World} {a:Array Value} {c d:Value} {R:Nat} (h:P3 w W a c d) (t:W.grownBy b (some R)) (f:w.heap.size+3<=R):P3 w b a c d:=
 ⟨h.below.grown t h.below.size (fun r e=>by have:=Option.some.inj e;omega),h.blkA.grown t (fun e=>by have:=Option.some.inj e;omega),h.blkB.grown t (fun e=>by have:=Option.some.inj e;omega),h.blkC.grown t (fun e=>by have:=Option.some.inj e;omega)⟩
theorem P3.new (w:World):P3 w (((w.alloc (.cells Al 42)).alloc (.cells #[.int .i64 0] 3)).alloc (.cells #[.int .i64 0] 28)) Al (.int .i64 0) (.int .i64 0):=
 ⟨((Aa w _).alloc (by simp) _).alloc (by simp;omega) _,((Ap.new w _ _).alloc _).alloc _,by simpa using(Ap.new (w.alloc (.cells Al 42)) 3 #[.int .i64 0]).alloc (.cells #[.int .i64 0] 28),by simpa using Ap.new ((w.alloc (.cells Al 42)).alloc (.cells #[.int .i64 0] 3)) 28 #[.int .i64 0]⟩
theorem Afy {B:Nat} {w4 w6 b:World} {R:Nat} {d:D} {cs:List Value} (h:A7 w4.heap.size w6 d cs) (_h6:w4.heap.size<=w6.heap.size) (f:w6.grownBy b (some R)) (k:R<w4.heap.size) (l:B+3<=w4.heap.size) (vs:List Value) (v1 c:Value):
 A7 B (((A4 b B 0 vs).setCell ⟨B+1,0,none⟩ v1).setCell ⟨B+1+1,0,none⟩ c).drew d cs:=by
 have j:=f.size;have g:((((A4 b B 0 vs).setCell ⟨B+1,0,none⟩ v1).setCell ⟨B+1+1,0,none⟩ c).drew).heap.size=b.heap.size:=by
  have:=Ba vs b B 0;simpa[World.setCell]using this
 refine h.keep (b':=B) (by omega) (by rw[g];exact j) (fun a m i=>World.cell?_of_block ?_);rw[<-f.block a.block i (by intro e;have:=Option.some.inj e;omega)];show(((A4 b B 0 vs).setCell ⟨B+1,0,none⟩ v1).setCell ⟨B+1+1,0,none⟩ c).heap[a.block]? =_;exact(Below.heap_setCell _ _ _ _ (by simp;omega)).trans ((Below.heap_setCell _ _ _ _ (by simp;omega)).trans (Ay _ b B 0 a.block (by omega)))
theorem Aar (s:ByteArray) (w:World) (hT:Cj w) (hN:Um w) (hs:s.size<=100000000):
 Calls Tryz.prog 40 #[.string s] w (Gv w (Eh s.data.toList)):=by
 have ak: ∀(fn:Fn) (first cap:Array Value) (w:World),(Instr.makeFunc fn first cap).run Tryz.prog w=.ok (.func fn first cap) w:=fun _ _ _ _=>rfl;have u:=P3.new w;have ad:(((w.alloc (.cells Al 42)).alloc (.cells #[.int .i64 0] 3)).alloc (.cells #[.int .i64 0] 28)).heap.size=w.heap.size+3:=by simp
 obtain⟨F,O⟩: ∃F,((w.alloc (.cells Al 42)).alloc (.cells #[.int .i64 0] 3)).alloc (.cells #[.int .i64 0] 28)=F:=⟨_,rfl⟩;rw[O]at u ad;have z:=R4 s F;have hV:=Ag9 F (hT.below u.below) (hN.below u.below) F.heap.size (F.heap.size+1) s hs (4*s.data.toList.length+4);obtain⟨R,Z⟩: ∃R,F.heap.size=R:=⟨_,rfl⟩;rw[Z]at z hV;have aj:w.heap.size+3<=R:=by omega
 clear ad;have P:=(Ee (4*s.data.toList.length+4)).1 s.data.toList 0 1 (Nat.zero_le _);obtain⟨ai,a⟩: ∃r,Eh s.data.toList=r:=⟨_,rfl⟩;rw[a];unfold Eh at a;have x:=fun(w4:World) h=>hV w4 0 1 h (Nat.zero_le _) (by rw[Ac];omega) (by omega) (by omega)
 cases hr:Bb (4*s.data.toList.length+4) s.data.toList 0 1 with
 |bad c q=>
  rw[hr]at a x;simp only at a;subst a;clear hV hr P;obtain⟨G,D,B⟩:=hid3 u x z;clear u x z
  go_enter_defers Tryz.func40,Tryz.ntmps40
  go_wp2_with (fail);(with_reducible refine(B.out).mono ?_);rintro e w4 ⟨rfl,g⟩;have C:=qz (G.out.later g.below);have n:RdI F w4 R (R+1) s 0:=⟨g.below,by omega,by have:=g.blk;rw[Z]at this;exact this,by have:=g.map;rw[Z]at this;exact this⟩;have I:=qz (D.out w4 n);have S:=qz n;clear n;clear g O;go_wp2_with (fail);(with_reducible refine(I.out).mono ?_);rintro e A ⟨rfl,af⟩;have o:=C.out.grown af (by omega);simp only[La];go_wp2;refine leaves_cons (f:=79) (args:= #[.pointer (some ⟨w.heap.size,0,none⟩),.pointer (some ⟨w.heap.size+1,0,none⟩),.pointer (some ⟨w.heap.size+2,0,none⟩)]) (by simp) (by simp[go_sem]) ?_;refine(Rc w A _ _ _ _ _ _ _ _ c (q:Nat) o).mono ?_;rintro e u' w6 ⟨rfl,rfl,t⟩;have d0:=t.blkA.cell 0;obtain⟨d0,d1,d2,d3,d4,d5⟩:=At t.blkA;have J:=t.blkB.cell 0;have K:=t.blkC.cell 0;simp[Leaves,settle,results,Tryz.results40,go_sem,d0,d1,d2,d3,d4,d5,J,K];exact⟨t.below,rfl⟩
 |ok v q=>
  rw[hr]at a x P;simp only at a;obtain⟨al,N⟩:=P;rw[Ac]at N;have hp:=Bq N;obtain⟨i,b,j,tv,lv,ov⟩:=v;clear hV hr;obtain⟨G,D,B,U⟩:=hid4 u x z a;clear u x z a
  go_enter_defers Tryz.func40,Tryz.ntmps40
  go_wp2_with (fail);(with_reducible refine(B.out).mono ?_);rintro e w4 ⟨rfl,g⟩;have C:=qz (G.out.later g.below);have n:RdI F w4 R (R+1) s 0:=⟨g.below,by omega,by have:=g.blk;rw[Z]at this;exact this,by have:=g.map;rw[Z]at this;exact this⟩;have ab:=D.out w4 n;have aa:R<w4.heap.size:=Ap.lt n.rd;have am:w.heap.size+3<=w4.heap.size:=by have:=g.below.size;omega
  obtain⟨S,I⟩:=hid2 n ab;clear n ab;clear g O B D;go_wp2_with (fail);(with_reducible refine(I.out).mono ?_);rintro e A ⟨⟨cs,rfl,M⟩,h5⟩;obtain⟨k,l,m,oc,rfl⟩:=Dc M;have o:=C.out.grown h5.1 (by omega);have ag:=h5.1.size;obtain⟨x0,x1,x2,x3,x4,x5⟩:=At o.blkA;have fx:=o.blkA.frozen;have lx:=o.blkA.lt;have t:P3 w ((((((A.setCell ⟨w.heap.size,0,none⟩ (.int .i64 i)).setCell ⟨w.heap.size,1,none⟩ (.bool b)).setCell ⟨w.heap.size,2,none⟩ (.int .i64 j)).setCell ⟨w.heap.size,3,none⟩ (.string tv)).setCell ⟨w.heap.size,4,none⟩ (.slice k lv.length l)).setCell ⟨w.heap.size,5,none⟩ (.slice m ov.length oc)) #[.int .i64 i,.bool b,.int .i64 j,.string tv,.slice k lv.length l,.slice m ov.length oc] (.int .i64 0) (.int .i64 0):=o.setA (.int .i64 i) (.bool b) (.int .i64 j) (.string tv) (.slice k lv.length l) (.slice m ov.length oc);have H6:Hid (Vj ((((((A.setCell ⟨w.heap.size,0,none⟩ (.int .i64 i)).setCell ⟨w.heap.size,1,none⟩ (.bool b)).setCell ⟨w.heap.size,2,none⟩ (.int .i64 j)).setCell ⟨w.heap.size,3,none⟩ (.string tv)).setCell ⟨w.heap.size,4,none⟩ (.slice k lv.length l)).setCell ⟨w.heap.size,5,none⟩ (.slice m ov.length oc)) R (R+1) s q):=(Ay [.int .i64 i,.bool b,.int .i64 j,.string tv,.slice k lv.length l,.slice m ov.length oc] A w.heap.size 0 R (by omega)).trans h5.2;have V:Hid (A7 w4.heap.size ((((((A.setCell ⟨w.heap.size,0,none⟩ (.int .i64 i)).setCell ⟨w.heap.size,1,none⟩ (.bool b)).setCell ⟨w.heap.size,2,none⟩ (.int .i64 j)).setCell ⟨w.heap.size,3,none⟩ (.string tv)).setCell ⟨w.heap.size,4,none⟩ (.slice k lv.length l)).setCell ⟨w.heap.size,5,none⟩ (.slice m ov.length oc)) (dV (.mk i b j tv lv ov)) [.int .i64 i,.bool b,.int .i64 j,.string tv,.slice k lv.length l,.slice m ov.length oc]):=M.keep (b':=w4.heap.size) (Nat.le_refl _) (by rw[show((((((A.setCell ⟨w.heap.size,0,none⟩ (.int .i64 i)).setCell ⟨w.heap.size,1,none⟩ (.bool b)).setCell ⟨w.heap.size,2,none⟩ (.int .i64 j)).setCell ⟨w.heap.size,3,none⟩ (.string tv)).setCell ⟨w.heap.size,4,none⟩ (.slice k lv.length l)).setCell ⟨w.heap.size,5,none⟩ (.slice m ov.length oc))=A4 A w.heap.size 0 [.int .i64 i,.bool b,.int .i64 j,.string tv,.slice k lv.length l,.slice m ov.length oc]from rfl,Ba];exact Nat.le_refl _) (fun p p1 _=>World.cell?_of_block (Ay [.int .i64 i,.bool b,.int .i64 j,.string tv,.slice k lv.length l,.slice m ov.length oc] A w.heap.size 0 p.block (by omega)));obtain⟨ae,T⟩:=hid2 o t;clear o t;clear h5 M;have Y:Hid (w4.heap.size<=((((((A.setCell ⟨w.heap.size,0,none⟩ (.int .i64 i)).setCell ⟨w.heap.size,1,none⟩ (.bool b)).setCell ⟨w.heap.size,2,none⟩ (.int .i64 j)).setCell ⟨w.heap.size,3,none⟩ (.string tv)).setCell ⟨w.heap.size,4,none⟩ (.slice k lv.length l)).setCell ⟨w.heap.size,5,none⟩ (.slice m ov.length oc)).heap.size):=by show _<=_;simpa[World.setCell]using ag
  go_wp2_with (fail);generalize ((((((A.setCell ⟨w.heap.size,0,none⟩ (.int .i64 i)).setCell ⟨w.heap.size,1,none⟩ (.bool b)).setCell ⟨w.heap.size,2,none⟩ (.int .i64 j)).setCell ⟨w.heap.size,3,none⟩ (.string tv)).setCell ⟨w.heap.size,4,none⟩ (.slice k lv.length l)).setCell ⟨w.heap.size,5,none⟩ (.slice m ov.length oc))=w6 at T H6 V Y ⊢;clear x0 x1 x2 x3 x4 x5 fx lx ae C S;have hS:=Gj R (R+1) s q w6 (by omega) N H6.out;have a:=U.out;generalize Ak s.data.toList q=p at hS hp a;(with_reducible refine hS.mono ?_);rintro e w7 ⟨rfl,Q⟩;have d:=T.out.grown Q.1 (by omega);obtain⟨c0,c1,_,_,_⟩:=Q.2.cells;clear hS;by_cases ac:p<s.size
  . rw[if_pos (by rw[Ac];exact ac)]at a;subst a;have e1:decide ((p:Int)<(s.size:Int))=true:=decide_eq_true (by omega);have e2:(p:Int)<(s.size:Int):=by omega
    have HW:=qz (Cc (.pointer (some ⟨R,0,none⟩)) 4 (p:Nat) w7);obtain⟨H,H7⟩:=hid2 d Q;clear d Q;go_wp2_with (fail);(with_reducible refine(HW.out).mono ?_);rintro e w8 ⟨rfl,rfl⟩;simp only[La];go_wp2;refine leaves_cons (f:=79) (args:= #[.pointer (some ⟨w.heap.size,0,none⟩),.pointer (some ⟨w.heap.size+1,0,none⟩),.pointer (some ⟨w.heap.size+2,0,none⟩)]) (by simp) (by simp[go_sem]) ?_;refine(Rc w w8 _ _ _ _ _ _ _ _ 4 (p:Nat) H.out).mono ?_;rintro e u' w9 ⟨rfl,rfl,E⟩;obtain⟨d0,d1,d2,d3,d4,d5⟩:=At E.blkA;have J:=E.blkB.cell 0;have K:=E.blkC.cell 0;simp[Leaves,settle,results,Tryz.results40,go_sem,d0,d1,d2,d3,d4,d5,J,K];exact⟨E.below,rfl⟩
  . rw[if_neg (by rw[Ac];exact ac)]at a;subst a;have e1:decide ((p:Int)<(s.size:Int))=false:=decide_eq_false (by omega);have e2: ¬((p:Int)<(s.size:Int)):=by omega
    obtain⟨x0,x1,x2,x3,x4,x5⟩:=At d.blkA;have fx:=d.blkA.frozen;have lx:=d.blkA.lt;have y0:=d.blkB.cell 0;have fy:=d.blkB.frozen 0;have z0:=d.blkC.cell 0;have fc:=d.blkC.frozen 0;have n0:w.heap.size≠R:=by omega
    have n1:w.heap.size+1≠R:=by omega
    have n2:w.heap.size+2≠R:=by omega
    have n3:w.heap.size+1+1≠R:=by omega
    have n4:w.heap.size+1+1≠w.heap.size:=by omega
    have n5:w.heap.size+1≠w.heap.size:=by omega
    simp only[List.getElem?_toArray,List.getElem?_cons_zero]at y0 z0;have L:Ap ((((((w7.setCell ⟨w.heap.size,0,none⟩ (.int .i64 i)).setCell ⟨w.heap.size,1,none⟩ (.bool b)).setCell ⟨w.heap.size,2,none⟩ (.int .i64 j)).setCell ⟨w.heap.size,3,none⟩ (.string tv)).setCell ⟨w.heap.size,4,none⟩ (.slice k lv.length l)).setCell ⟨w.heap.size,5,none⟩ (.slice m ov.length oc)) w.heap.size 42 #[.int .i64 i,.bool b,.int .i64 j,.string tv,.slice k lv.length l,.slice m ov.length oc]:=(d.setA (.int .i64 i) (.bool b) (.int .i64 j) (.string tv) (.slice k lv.length l) (.slice m ov.length oc)).blkA;obtain⟨q0,q1,q2,q3,q4,q5⟩:=At L;obtain⟨H,H7,ah⟩:=hid3 d Q L;clear d Q L;go_wp2
    go_region_held3 (fun X=>X.cell? ⟨R,0,none⟩=some (.string s)/\X.cell? ⟨R,1,none⟩=some (.int .i64 (p:Nat))/\X.cell? ⟨w.heap.size,0,none⟩=some (.int .i64 i)/\X.cell? ⟨w.heap.size,1,none⟩=some (.bool b)/\X.cell? ⟨w.heap.size,2,none⟩=some (.int .i64 j)/\X.cell? ⟨w.heap.size,3,none⟩=some (.string tv)/\X.cell? ⟨w.heap.size,4,none⟩=some (.slice k lv.length l)/\X.cell? ⟨w.heap.size,5,none⟩=some (.slice m ov.length oc)) (go_keep) (fail)
    all_goals
     have y:Hid (P3 w (((((((((w7.setCell ⟨w.heap.size,0,none⟩ (.int .i64 i)).setCell ⟨w.heap.size,1,none⟩ (.bool b)).setCell ⟨w.heap.size,2,none⟩ (.int .i64 j)).setCell ⟨w.heap.size,3,none⟩ (.string tv)).setCell ⟨w.heap.size,4,none⟩ (.slice k lv.length l)).setCell ⟨w.heap.size,5,none⟩ (.slice m ov.length oc)).setCell ⟨w.heap.size+1,0,none⟩ (.int .i64 (p:Nat))).setCell ⟨w.heap.size+1+1,0,none⟩ (.int .i64 0)).drew) #[.int .i64 i,.bool b,.int .i64 j,.string tv,.slice k lv.length l,.slice m ov.length oc] (.int .i64 (p:Nat)) (.int .i64 0)):=(((H.out.setA (.int .i64 i) (.bool b) (.int .i64 j) (.string tv) (.slice k lv.length l) (.slice m ov.length oc)).setB (.int .i64 (p:Nat))).setC (.int .i64 0)).later (Below.drew (Below.refl _ _));have W:Hid (A7 w.heap.size (((((((((w7.setCell ⟨w.heap.size,0,none⟩ (.int .i64 i)).setCell ⟨w.heap.size,1,none⟩ (.bool b)).setCell ⟨w.heap.size,2,none⟩ (.int .i64 j)).setCell ⟨w.heap.size,3,none⟩ (.string tv)).setCell ⟨w.heap.size,4,none⟩ (.slice k lv.length l)).setCell ⟨w.heap.size,5,none⟩ (.slice m ov.length oc)).setCell ⟨w.heap.size+1,0,none⟩ (.int .i64 (p:Nat))).setCell ⟨w.heap.size+1+1,0,none⟩ (.int .i64 0)).drew) (dV (.mk i b j tv lv ov)) [.int .i64 i,.bool b,.int .i64 j,.string tv,.slice k lv.length l,.slice m ov.length oc]):=Afy V.out Y.out H7.out.1 aa (by omega) [.int .i64 i,.bool b,.int .i64 j,.string tv,.slice k lv.length l,.slice m ov.length oc] _ _;clear q0 q1 q2 q3 q4 q5 x0 x1 x2 x3 x4 x5 y0 z0 fx fy fc;go_wp2;refine leaves_cons (f:=79) (args:= #[.pointer (some ⟨w.heap.size,0,none⟩),.pointer (some ⟨w.heap.size+1,0,none⟩),.pointer (some ⟨w.heap.size+2,0,none⟩)]) (by simp) (by simp[go_sem]) ?_;refine(Aat _ _ _ _).mono ?_;rintro e u' w9 ⟨rfl,rfl,rfl⟩;obtain⟨d0,d1,d2,d3,d4,d5⟩:=At y.out.blkA;have J:=y.out.blkB.cell 0;have K:=y.out.blkC.cell 0;simp only[List.getElem?_toArray,List.getElem?_cons_zero]at J K;generalize (((((((((w7.setCell ⟨w.heap.size,0,none⟩ (.int .i64 i)).setCell ⟨w.heap.size,1,none⟩ (.bool b)).setCell ⟨w.heap.size,2,none⟩ (.int .i64 j)).setCell ⟨w.heap.size,3,none⟩ (.string tv)).setCell ⟨w.heap.size,4,none⟩ (.slice k lv.length l)).setCell ⟨w.heap.size,5,none⟩ (.slice m ov.length oc)).setCell ⟨w.heap.size+1,0,none⟩ (.int .i64 (p:Nat))).setCell ⟨w.heap.size+1+1,0,none⟩ (.int .i64 0)).drew)=w9 at y W d0 d1 d2 d3 d4 d5 J K ⊢;simp[Leaves,settle,results,Tryz.results40,go_sem,d0,d1,d2,d3,d4,d5,J,K];exact⟨y.out.below,_,rfl,W.out⟩
theorem Wf {s:List UInt8} {c:Int} {q:Nat} (h:Eh s=.bad c q):1<=c:=by
 unfold Eh at h;have a:=(Ee (4*s.length+4)).1 s 0 1 (Nat.zero_le _)
 cases hr:Bb (4*s.length+4) s 0 1 with
 |bad e p=>rw[hr]at h a;simp only[Rd.bad.injEq]at h;have:=a.2.2.1;omega
 |ok v p=>
  rw[hr]at h;simp only at h
  split at h
  . simp only[Rd.bad.injEq]at h;omega
  . cases h
end Go.Proofs.YtjgfchcldhmjcaaGreatDoor
