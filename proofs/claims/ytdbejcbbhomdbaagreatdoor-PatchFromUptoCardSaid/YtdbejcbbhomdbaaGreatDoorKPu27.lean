/- Parts: commonplaceref02.Compare of objects, and of every value: 0 just where they have the same order. Printed by mksam.py. Condition: a bulk of at most 10^8. -/
import Derived.Deep.RegionLaw
import Derived.StillTailTactics
import Derived.Test.YtdbejcbbhomdbaaGreatDoorKPu22
set_option maxHeartbeats 20000000
set_option maxRecDepth 100000
namespace Go.Proofs.YtdbejcbbhomdbaaGreatDoor
open Go Go.RowKit
theorem Ae.len6 {w:World} {B:Nat} {v:Val} {cs:List Value} (h:Ae w B v cs):cs.length=6:=by
 obtain⟨k,b,n,t,l,o⟩:=v;simp only[Ae]at h;obtain⟨la,lc,oa,oc,rfl,_⟩:=h;rfl
theorem Ng {w:World} {g off:Nat} {cs cs':List Value} (hl:cs.length=cs'.length) (h: ∀j u,cs[j]? =some u->w.cell? ⟨g,off+j,none⟩=some u) (h': ∀j u,cs'[j]? =some u->w.cell? ⟨g,off+j,none⟩=some u):cs=cs':=by
 refine List.ext_getElem hl fun j h1 h2=> ?_;have e1:=h j _ (List.getElem?_eq_getElem h1);have e2:=h' j _ (List.getElem?_eq_getElem h2);rw[e1]at e2;exact Option.some.inj e2
theorem Aj.inj {w:World} {B B':Nat}: ∀{l l':List Val},(∀v ∈ l,∀cs v',Ae w B v cs->Ae w B' v' cs->v=v')->l.length=l'.length-> ∀{g off},Aj w B l g off->Aj w B' l' g off->l=l'
 | [], [],_,_,_,_,_,_=>rfl
 | [],_::_,_,hl,_,_,_,_=>by simp at hl
 |_::_, [],_,hl,_,_,_,_=>by simp at hl
 |v::r,v'::r',ih,hl,g,off,h,h'=>by
  simp only[Aj]at h h';obtain⟨⟨cs,h1,hc⟩,h2⟩:=h;obtain⟨⟨cs',h1',hc'⟩,h2'⟩:=h';have e:cs=cs':=Ng (by rw[h1.len6,h1'.len6]) hc hc';subst e;rw[ih v (by simp) cs v' h1 h1',Aj.inj (fun x hx=>ih x (by simp[hx])) (by simpa using hl) h2 h2']
theorem Ak.inj {w:World} {B B':Nat}: ∀{l l':List (ByteArray×Val)},(∀m ∈ l,∀cs v',Ae w B m.2 cs->Ae w B' v' cs->m.2=v')->l.length=l'.length-> ∀{g off},Ak w B l g off->Ak w B' l' g off->l=l'
 | [], [],_,_,_,_,_,_=>rfl
 | [],_::_,_,hl,_,_,_,_=>by simp at hl
 |_::_, [],_,hl,_,_,_,_=>by simp at hl
 |(key,v)::r,(key',v')::r',ih,hl,g,off,h,h'=>by
  simp only[Ak,Gh]at h h';obtain⟨⟨h0,cs,h1,hc⟩,h2⟩:=h;obtain⟨⟨h0',cs',h1',hc'⟩,h2'⟩:=h';have e:cs=cs':=Ng (by rw[h1.len6,h1'.len6]) hc hc';subst e;rw[h0]at h0';simp only[Option.some.injEq,Value.string.injEq]at h0';have e1:v=v':=ih (key,v) (by simp) cs v' h1 h1';rw[e1,h0',Ak.inj (fun x hx=>ih x (by simp[hx])) (by simpa using hl) h2 h2']
theorem Ae.inj {w:World} {B B':Nat}: ∀(v:Val) (cs:List Value) (v':Val),Ae w B v cs->Ae w B' v' cs->v=v':=by
 refine Val.ind ?_;intro k b n t l o hl ho cs v' h h';obtain⟨k',b',n',t',l',o'⟩:=v';simp only[Ae]at h h';obtain⟨la,lc,oa,oc,rfl,h1,h2⟩:=h;obtain⟨la',lc',oa',oc',e,h1',h2'⟩:=h';simp only[Dr,List.cons.injEq,Value.int.injEq,Value.bool.injEq,Value.string.injEq,Value.slice.injEq,true_and,and_true]at e;obtain⟨rfl,rfl,rfl,rfl,⟨rfl,el,rfl⟩,⟨rfl,eo,rfl⟩⟩:=e;have e1:l=l':=by
  rcases h1 with rfl|⟨g,off,ea,_,h1⟩
  . exact(List.eq_nil_of_length_eq_zero (by simpa using el.symm)).symm
  . rcases h1' with rfl|⟨g',off',ea',_,h1'⟩
    . exact List.eq_nil_of_length_eq_zero (by simpa using el)
    . rw[ea]at ea'
      cases ea'
      exact Aj.inj hl el h1 h1'
 have e2:o=o':=by
  rcases h2 with rfl|⟨g,off,ea,_,h2⟩
  . exact(List.eq_nil_of_length_eq_zero (by simpa using eo.symm)).symm
  . rcases h2' with rfl|⟨g',off',ea',_,h2'⟩
    . exact List.eq_nil_of_length_eq_zero (by simpa using eo)
    . rw[ea]at ea'
      cases ea'
      exact Ak.inj ho eo h2 h2'
 rw[e1,e2]
theorem Zd {w:World} {B B':Nat} {l l':List A0} {a:Option Addr} {n c:Nat} (h:Ai w B (.row 7 (dO l)) [.slice a n c]) (h':Ai w B' (.row 7 (dO l')) [.slice a n c]):l=l':=by
 have e1:=h.row_len;have e2:=h'.row_len;rw[Az]at e1 e2;obtain⟨a1,c1,e,_,ns,h1,h2⟩:=h;obtain⟨a2,c2,e',_,ns',h1',h2'⟩:=h';simp only[List.cons.injEq,Value.slice.injEq,and_true]at e e';obtain⟨rfl,_,rfl⟩:=e;obtain⟨rfl,_,rfl⟩:=e';have key:l≠ []->l=l':=fun hne=>by
  rcases h2 with h2|⟨g,off,ea,_,hc⟩
  . cases l with
    |nil=>exact absurd rfl hne
    |cons x r=>simp[dO]at h2
  rcases h2' with h2'|⟨g',off',ea',_,hc'⟩
  . cases l' with
    |nil=>exact List.eq_nil_of_length_eq_zero (by simpa using(e1.symm.trans e2))
    |cons x r=>simp[dO]at h2'
  rw[ea]at ea'
  cases ea'
  exact Ak.inj (fun m _ cs v' hv hv'=>Ae.inj m.2 cs v' hv hv') (by omega) (Ah.toO (fun m _ cs=>Bj m.2 cs) h1 hc) (Ah.toO (fun m _ cs=>Bj m.2 cs) h1' hc')
 by_cases hne:l= []
 . subst hne;exact(List.eq_nil_of_length_eq_zero (by simpa using(e2.symm.trans e1))).symm
 . exact key hne
theorem Zc {w:World} {B B':Nat} {l l':List Nat} {a:Option Addr} {n c:Nat} (h:Ai w B (.row 1 (Av l)) [.slice a n c]) (h':Ai w B' (.row 1 (Av l')) [.slice a n c]):l=l':=by
 have e1:=h.row_len;have e2:=h'.row_len;rw[Ax]at e1 e2;refine List.ext_getElem (by omega) fun i h1 h2=> ?_;obtain⟨g,off,ea,_,cs,k1,_,k3⟩:=h.at_ (i:=i) (d:=Qp l[i]) (by simp[Av,h1]);obtain⟨g',off',ea',_,cs',k1',_,k3'⟩:=h'.at_ (i:=i) (d:=Qp l'[i]) (by simp[Av,h2]);rw[ea]at ea'
 cases ea'
 obtain⟨rfl,_⟩:=k1;obtain⟨rfl,_⟩:=k1';have q1:=k3 0 _ rfl;have q2:=k3' 0 _ rfl;rw[q1]at q2;simpa using q2
theorem Ar.inj {w:World} {B B':Nat}: ∀{ks ks':List Nd},(∀k ∈ ks,∀b k',Bi w B k b->Bi w B' k' b->k=k')-> ∀{bs},Ar w B ks bs->Ar w B' ks' bs->ks=ks'
 | [], [],_,_,_,_=>rfl
 | [],k::r,_,bs,h,h'=>by
   simp only[Ar]at h h';obtain⟨b,t,e,_⟩:=h';rw[h]at e;cases e
 |k::r, [],_,bs,h,h'=>by
  simp only[Ar]at h h';obtain⟨b,t,e,_⟩:=h;rw[h']at e;cases e
 |k::r,k'::r',ih,bs,h,h'=>by
  simp only[Ar]at h h';obtain⟨b,t,rfl,h1,h2⟩:=h;obtain⟨b',t',e,h1',h2'⟩:=h'
  cases e
  rw[ih k (by simp) b k' h1 h1',Ar.inj (fun x hx=>ih x (by simp[hx])) h2 h2']
theorem Bi.inj {w:World} {B B':Nat}: ∀(n:Nd) (b:Nat) (n':Nd),Bi w B n b->Bi w B' n' b->n=n':=by
 refine Nd.ind ?_ ?_
 . intro es b n' h h'
   cases n' with
   |leaf es'=>
    simp only[Bi]at h h';obtain⟨_,a,c,h1,h2⟩:=h;obtain⟨_,a',c',h1',h2'⟩:=h';have e:=h2.symm.trans h2';simp only[Option.some.injEq,Obj.cells.injEq,Array.mk.injEq,List.cons.injEq,Value.slice.injEq,true_and,and_true]at e;obtain⟨⟨rfl,e1,rfl⟩,_⟩:=e;rw[e1]at h1;rw[Zd h1 h1']
   |inner ks'=>
    simp only[Bi]at h h';obtain⟨_,a,c,h1,h2⟩:=h;obtain⟨_,bs,a',c',h1',h2',_⟩:=h';have e:=h2.symm.trans h2';simp only[Option.some.injEq,Obj.cells.injEq,Array.mk.injEq,List.cons.injEq,Value.int.injEq,true_and,Iy]at e;omega
 . intro ks ih b n' h h'
   cases n' with
   |leaf es'=>
    simp only[Bi]at h h';obtain⟨_,bs,a,c,h1,h2,_⟩:=h;obtain⟨_,a',c',h1',h2'⟩:=h';have e:=h2.symm.trans h2';simp only[Option.some.injEq,Obj.cells.injEq,Array.mk.injEq,List.cons.injEq,Value.int.injEq,true_and,Iy]at e;omega
   |inner ks'=>
    simp only[Bi]at h h';obtain⟨_,bs,a,c,h1,h2,h3⟩:=h;obtain⟨_,bs',a',c',h1',h2',h3'⟩:=h';have e:=h2.symm.trans h2';simp only[Option.some.injEq,Obj.cells.injEq,Array.mk.injEq,List.cons.injEq,Value.slice.injEq,true_and,and_true]at e;obtain⟨⟨rfl,e1,rfl⟩,_⟩:=e;rw[e1]at h1;have eb:=Zc h1 h1';subst eb;rw[Ar.inj (fun k hk b k' hb hb'=>ih k hk b k' hb hb') h3 h3']
def Ur {α β:Type} (P:Program) (gf:Nat) (lb:Array Value) (encs:α->β->Array Value) (E:α->β->(Nat->Prop)->World->Prop) (K0:Nat->Prop) (xs:List α) (N:World->Prop):Prop:=
 ∀(n l:Nat) (J:List α->(Nat->Prop)->(Nat->Prop)->World->Prop) (W:World),
  (∀s T K A T' K' B,J s T K A->KB T A B->(∀i,i<A.heap.size->(T' i ↔ T i)/\(K' i ↔ K i))->(∀i,K' i->i<B.heap.size)->J s T' K' B)->
  (∀pre x rest q T K A,xs=pre++x::rest->J pre T K A->E x q (fun i=>K i/\ ¬T i) A->(∀i,T i->K i)->(∀i,K i->i<A.heap.size)->YieldAt Fence.wide n P l (encs x q) A fun e B=>e=.returned (.bool true)/\J (pre++ [x]) T K B/\KB (fun i=> ¬K i) A B)->
  N W->J [] (fun _=>False) K0 W->CallsIn Fence.wide (n+1) P gf (#[.func (.yield l) #[] #[]]++lb) W fun e B=>(∃v,e=.returned v)/\ ∃T K,J xs T K B
theorem KB.put {S:Nat->Prop} (w:World) {k:Nat} (hk:S k) (o:Obj):KB S w (w.putObj k o):=⟨rfl,rfl,rfl,by simp[World.putObj],fun j _ h2=>World.putObj_heap_other (fun e=>h2 (e▸hk))⟩
theorem Ul {α β:Type} {P:Program} {g:Operand} {ps:Array Tmp} {assign body:Code} {Q:Exit->Act->World->Prop} {a:Act} {w:World} {n:Nat}
 {gf:Nat} {lb:Array Value} (hg:a.eval g=.func (.func gf) #[] lb) (eg: ∀args w,(callFunc gf args).run P w=.ok (.enter gf args) w)
 {encs:α->β->Array Value} {E:α->β->(Nat->Prop)->World->Prop} {K0:Nat->Prop} {xs:List α} {N:World->Prop} (hit:Ur P gf lb encs E K0 xs N) (hps: ∀x q,(encs x q).size=ps.size)
 (hEp: ∀x q D A k o',E x q D A-> ¬D k->E x q D (A.putObj k o')) (hK0: ∀i,K0 i->i<w.heap.size)
 (I:List α->(Nat->Prop)->(Nat->Prop)->World->Prop)
 (hIn: ∀s T K A T' K' B,I s T K A->KB T A B->(∀i,i<A.heap.size->(T' i ↔ T i)/\(K' i ↔ K i))->(∀i,K' i->i<B.heap.size)->I s T' K' B)
 (hIp: ∀s T K A k o o',I s T K A->A.heap[k]? =some o->o.isCells=false-> ¬K k->w.heap.size<=k->I s T K (A.putObj k o'))
 (hEb: ∀x q D A B,E x q D A->Below A.heap.size A B->E x q D B) (hN: ∀W,Below w.heap.size w W->N W) (h0:I [] (fun _=>False) K0 w) (RB:α->β->Act->World->Prop)
 (hRp: ∀x q a' A k o o',RB x q a' A->A.heap[k]? =some o->o.isCells=false->RB x q a' (A.putObj k o'))
 (hassign: ∀(l:Nat) (x:α) (q:β) (D:Nat->Prop) (W:World) (K:Act->World->Prop),E x q D W->(∀a' W',Below W.heap.size W W'->RB x q a' W'->K a' W')->
   assign.wpIn (Fence.wide.inRound l) n P (Exit.then K (fun _ _ _=>False)) {tmps:=(ps.zip (encs x q)).foldl (fun t (p,v)=>t.setIfInBounds p v) a.tmps,defers:= []} W)
 (hbody: ∀(l:Nat) (pre:List α) (x:α) (rest:List α) (q:β) (T K:Nat->Prop) (a':Act) (W:World),RB x q a' W->xs=pre++x::rest->I pre T K W->E x q (fun i=>K i/\ ¬T i) W->(∀i,T i->K i)->(∀i,K i->i<W.heap.size)->
   ¬K w.heap.size-> ¬K (w.heap.size+1)->(∃ds,W.heap[w.heap.size]? =some (.deferred ds))->(∃r,W.heap[w.heap.size+1]? =some (.loop r))->
   body.wpIn (Fence.wide.inRound l) n P (Kx (fun B=>I (pre++ [x]) T K B/\KB (fun i=> ¬K i) W B) w.heap.size W) a' W)
 (hdone: ∀(T K:Nat->Prop) (W:World),I xs T K W-> ¬K w.heap.size->W.heap[w.heap.size]? =some (.deferred (some []))->Q .normal {a with defers:={target:=.collected w.heap.size,args:= #[]}::a.defers} W):
 (Code.rangeFunc g ps assign body).wpIn Fence.wide (n+1+1) P Q a w:=by
 refine wpIn_rangeFunc ?_;intro fn hfn;have hro:Fence.wide.round=none:=rfl;rw[hro];obtain⟨rec,hrec⟩: ∃rec:LoopState->Option Code->Loop,rec=fun st pe=>{state:=st,pending:=pe,fn,tmps:=a.tmps,params:=ps,assign,body,defers:=w.heap.size}:=⟨_,rfl⟩;obtain⟨W1,hW1⟩: ∃W1,(w.alloc (.deferred (some []))).alloc (.loop (rec .ready none))=W1:=⟨_,rfl⟩;have hL1:W1.heap[w.heap.size+1]? =some (.loop (rec .ready none)):=by
  rw[<-hW1];have:=World.alloc_heap_new (w.alloc (.deferred (some []))) (.loop (rec .ready none));rwa [World.size_alloc]at this
 have hK1:W1.heap[w.heap.size]? =some (.deferred (some [])):=by
  rw[<-hW1];exact(Below.heap_alloc _ _ _ (by simp)).trans (World.alloc_heap_new w _)
 have hbW:Below w.heap.size w W1:=hW1▸((Below.refl _ w).alloc (Nat.le_refl _) _).alloc (by simp) _;have hI1:I [] (fun _=>False) K0 W1:=hIn _ _ _ _ _ _ _ h0 (KB.of_below hbW) (fun _ _=>⟨Iff.rfl,Iff.rfl⟩) fun i hi=>Nat.lt_of_lt_of_le (hK0 i hi) hbW.size;refine⟨w.heap.size+1, [{target:=.collected w.heap.size,args:= #[]}],W1,{target:=.fn (.func gf) lb,args:= #[.func (.yield (w.heap.size+1)) #[] #[]]},W1,gf,
  #[.func (.yield (w.heap.size+1)) #[] #[]]++lb,W1, ?_, ?_, ?_, ?_,fun h=>by simp[Fence.wide]at h, ?_⟩
 . rw[<-hW1,hrec];exact run_enterLoop_outer _ _ _ _ _
 . simp only[resolve,hg];simp[go_sem]
 . intro f' _;trivial
 . simp[invoke,go_sem,eg]
 . refine(hit n (w.heap.size+1)
    (fun pre T K W=>I pre T K W/\W.heap[w.heap.size+1]? =some (.loop (rec .ready none))/\W.heap[w.heap.size]? =some (.deferred (some []))/\ ¬T w.heap.size/\ ¬T (w.heap.size+1)/\ ¬K w.heap.size/\ ¬K (w.heap.size+1)/\ ∀i,K i->i<W.heap.size)
    W1 ?_ ?_ (hN _ hbW) ⟨hI1,hL1,hK1,fun h=>h,fun h=>h,fun h=>by have:=hK0 _ h;omega,fun h=>by have:=hK0 _ h;omega,fun i hi=>Nat.lt_of_lt_of_le (hK0 i hi) hbW.size⟩).mono ?_
   . rintro s T K A T' K' B ⟨j1,j2,j3,j4,j5,j6,j7,j8⟩ hb hTK hKB;have z2:=(Array.getElem?_eq_some_iff.1 j2).1;have z3:=(Array.getElem?_eq_some_iff.1 j3).1;exact⟨hIn _ _ _ _ _ _ _ j1 hb hTK hKB,(hb.block _ z2 j5).trans j2,(hb.block _ z3 j4).trans j3,fun h=>j4 ((hTK _ z3).1.1 h),fun h=>j5 ((hTK _ z2).1.1 h),fun h=>j6 ((hTK _ z3).2.1 h),fun h=>j7 ((hTK _ z2).2.1 h),hKB⟩
   ·
    rintro pre x rest q T K W hx ⟨hi,hl,hk,j4,j5,j6,j7,j8⟩ hE hTK _;have hlt:w.heap.size+1<W.heap.size:=(Array.getElem?_eq_some_iff.1 hl).1;have hy:=run_yield (P:=P) (args:=encs x q) hl (by rw[hrec];exact hps x q);rw[hrec]at hy;refine⟨fn,_,assign,body,hy,roundIn_of_wpIn trivial (hassign _ x q _ W _ hE fun a' W' hbW hRB=>⟨_,run_beginRound ((hbW.block _ hlt).trans hl) (by rw[hrec]), ?_⟩)⟩;have hlt':=Nat.lt_of_lt_of_le hlt hbW.size;have hlW:=(hbW.block _ hlt).trans hl;have hkW:=(hbW.block _ (by omega)).trans hk;have hiW:=hIn _ _ _ _ T K _ hi (KB.of_below hbW) (fun _ _=>⟨Iff.rfl,Iff.rfl⟩) fun i h=>Nat.lt_of_lt_of_le (j8 i h) hbW.size;have hEW:=hEb _ _ _ _ _ hE hbW;have hl2:(W'.putObj (w.heap.size+1) (.loop {rec .ready none with state:=.busy})).heap[w.heap.size+1]? =some (.loop {rec .ready none with state:=.busy}):=World.putObj_heap_same hlt';have hk2:(W'.putObj (w.heap.size+1) (.loop {rec .ready none with state:=.busy})).heap[w.heap.size]? =some (.deferred (some [])):=(World.putObj_heap_other (by omega)).trans hkW;have hkb1:=(KB.of_below (S:=fun i=> ¬K i) hbW).trans (KB.put (S:=fun i=> ¬K i) W' (k:=w.heap.size+1) j7 (.loop {rec .ready none with state:=.busy})) fun _ _ h=>h;refine wpIn_mono (hbody _ pre x rest q T K a' _ (hRp _ _ _ _ _ _ _ hRB hlW rfl) hx (hIp _ _ _ _ _ _ _ hiW hlW rfl j7 (by omega)) (hEp _ _ _ _ _ _ hEW fun h=>j7 h.1) hTK (fun i hi=>Nat.lt_of_lt_of_le (j8 i hi) hkb1.size) j6 j7 ⟨_,hk2⟩ ⟨_,hl2⟩) ?_;rintro e a3 W3 hp
    cases e with
    |normal=>
     obtain⟨h1,h2,hi3,hkb2⟩:=hp;have hl3:=h2.trans hl2;have hk3:=h1.trans hk2;have hr:=run_endRound (P:=P) none hl3;rw[hrec]at hr;have hkb3:=(hkb1.trans hkb2 fun _ _ h=>h).trans (KB.put (S:=fun i=> ¬K i) W3 (k:=w.heap.size+1) j7 (.loop {rec .ready none with state:=.ready})) fun _ _ h=>h;refine⟨_,_,hr,rfl,⟨hIp _ _ _ _ _ _ _ hi3 hl3 rfl j7 (by omega), ?_, ?_,j4,j5,j6,j7,fun i hi=>Nat.lt_of_lt_of_le (j8 i hi) ?_⟩, ?_⟩
     . rw[World.putObj_heap_same (Array.getElem?_eq_some_iff.1 hl3).1,hrec];rfl
     . exact(World.putObj_heap_other (by omega)).trans hk3
     . rw[hrec]at hkb3;exact hkb3.size
     . rw[hrec]at hkb3;exact hkb3
    |ret=>exact hp.elim
    |exit id=>exact hp.elim
    |goto t=>exact hp.elim
    |panic ch=>exact hp.elim
    |outgrown=>exact hp.elim
   ·
    rintro e W2 ⟨⟨v,rfl⟩,T,K,hi,hl,hk,_,_,j6,j7,_⟩;exact⟨none,_,by have:=run_endLoop (P:=P) hl (by rw[hrec];simp);rw[hrec]at this;exact this,hdone T K _ (hIp _ _ _ _ _ _ _ hi hl rfl j7 (by omega)) j6 ((World.putObj_heap_other (by omega)).trans hk)⟩
def G3 (b:Nat) (wr:World) (own:Option Nat) (l:List Val) (ns:List Value):Prop:= ∀w'':World,wr.heap.size<=w''.heap.size->
 (∀p:Addr,b<=p.block->p.block<wr.heap.size->own≠some p.block->w''.cell? p=wr.cell? p)->F6 w'' wr.heap.size l ns
theorem G3.step {b:Nat} {wr w4 w6:World} {own own':Option Nat} {t N:Nat} {l:List Val} {ns cs:List Value} {x:Val} (h:G3 b wr own l ns) (hx:W4 wr w4 x cs) (hw:b<=wr.heap.size)
 (ho: ∀g,own=some g->g<wr.heap.size) (ho':own'=own\/own'=some N) (hN:w4.heap.size<=N) (ht:t<b)
 (h4: ∀p:Addr,p.block<wr.heap.size->w4.cell? p=wr.cell? p) (hs4:wr.heap.size<=w4.heap.size)
 (h6: ∀p:Addr,p.block<w4.heap.size->own≠some p.block->p.block≠t->w6.cell? p=w4.cell? p) (hs6:w4.heap.size<=w6.heap.size):G3 b w6 own' (l++ [x]) (ns++cs):=by
 intro w'' hsz hag;have a1:F6 w'' w6.heap.size l ns:=by
  refine F6.more (by omega) (h w'' (by omega) (fun p p1 p2 p3=> ?_));have e1:own'≠some p.block:=by
   rcases ho' with e|e
   . rw[e];exact p3
   . rw[e];intro e2;have:=Option.some.inj e2;omega
  rw[hag p p1 (by omega) e1,h6 p (by omega) p3 (by omega),h4 p p2]
 have a2:Ae w'' w6.heap.size x cs:=by
  refine Ae.more hs6 _ _ (hx w'' (by omega) (fun p p1 p2=> ?_));have e0:own≠some p.block:=fun e=>by have:=ho _ e;omega
  have e1:own'≠some p.block:=by
   rcases ho' with e|e
   . rw[e];exact e0
   . rw[e];intro e2;have:=Option.some.inj e2;omega
  rw[hag p (by omega) (by omega) e1,h6 p p2 e0 (by omega)]
 exact F6.snoc a2 a1
def Aax (b:Nat) (wr:World) (l:List Val) (V:Value):Prop:= ∃la lc,V=.slice la l.length lc/\(l= []\/ ∃g,la=some ⟨g,0,none⟩/\g<wr.heap.size/\ ∀w'':World,wr.heap.size<=w''.heap.size->
 (∀p:Addr,b<=p.block->p.block<wr.heap.size->w''.cell? p=wr.cell? p)->Aj w'' wr.heap.size l g 0)
theorem G3.close {b:Nat} {wr:World} {l:List Val} {V:Value} {ns:List Value} (h:G3 b wr V.ownBlock l ns) (ho:wr.ownsRow b 33 6 V l.length ns):Aax b wr l V:=by
 obtain⟨la,lc,rfl,hs⟩:=We ho;refine⟨la,lc,rfl, ?_⟩;rcases hs with h0|⟨g,rfl,hbg,hg,hc⟩
 . exact .inl (List.length_eq_zero_iff.1 h0)
 . refine .inr ⟨g,rfl,hg,fun w'' hsz hag=> ?_⟩;exact(h w'' hsz (fun p p1 p2 _=>hag p p1 p2)).holds (fun v cs hv=>hv) (fun j u hu=>by rw[hag _ hbg hg];exact hc j u hu)
def F4 (b:Nat) (wr:World) (own:Option Nat) (l:List (ByteArray×Val)) (ns:List Value):Prop:= ∀w'':World,wr.heap.size<=w''.heap.size->
 (∀p:Addr,b<=p.block->p.block<wr.heap.size->own≠some p.block->w''.cell? p=wr.cell? p)->Dy w'' wr.heap.size l ns
theorem F4.step {b:Nat} {wr w4 w6:World} {own own':Option Nat} {t N:Nat} {l:List (ByteArray×Val)} {ns cs:List Value} {key:ByteArray} {x:Val} (h:F4 b wr own l ns) (hx:W4 wr w4 x cs) (hw:b<=wr.heap.size)
 (ho: ∀g,own=some g->g<wr.heap.size) (ho':own'=own\/own'=some N) (hN:w4.heap.size<=N) (ht:t<b)
 (h4: ∀p:Addr,p.block<wr.heap.size->w4.cell? p=wr.cell? p) (hs4:wr.heap.size<=w4.heap.size)
 (h6: ∀p:Addr,p.block<w4.heap.size->own≠some p.block->p.block≠t->w6.cell? p=w4.cell? p) (hs6:w4.heap.size<=w6.heap.size):F4 b w6 own' (l++ [(key,x)]) (ns++(.string key::cs)):=by
 intro w'' hsz hag;have a1:Dy w'' w6.heap.size l ns:=by
  refine Dy.more (by omega) (h w'' (by omega) (fun p p1 p2 p3=> ?_));have e1:own'≠some p.block:=by
   rcases ho' with e|e
   . rw[e];exact p3
   . rw[e];intro e2;have:=Option.some.inj e2;omega
  rw[hag p p1 (by omega) e1,h6 p (by omega) p3 (by omega),h4 p p2]
 have a2:Ae w'' w6.heap.size x cs:=by
  refine Ae.more hs6 _ _ (hx w'' (by omega) (fun p p1 p2=> ?_));have e0:own≠some p.block:=fun e=>by have:=ho _ e;omega
  have e1:own'≠some p.block:=by
   rcases ho' with e|e
   . rw[e];exact e0
   . rw[e];intro e2;have:=Option.some.inj e2;omega
  rw[hag p (by omega) (by omega) e1,h6 p p2 e0 (by omega)]
 exact Dy.snoc a2 a1
def Aay (b:Nat) (wr:World) (l:List (ByteArray×Val)) (V:Value):Prop:= ∃la lc,V=.slice la l.length lc/\(l= []\/ ∃g,la=some ⟨g,0,none⟩/\g<wr.heap.size/\ ∀w'':World,wr.heap.size<=w''.heap.size->
 (∀p:Addr,b<=p.block->p.block<wr.heap.size->w''.cell? p=wr.cell? p)->Ak w'' wr.heap.size l g 0)
theorem F4.close {b:Nat} {wr:World} {l:List (ByteArray×Val)} {V:Value} {ns:List Value} (h:F4 b wr V.ownBlock l ns) (ho:wr.ownsRow b 88 7 V l.length ns):Aay b wr l V:=by
 have ho':=ho;rcases ho.2 with⟨rfl,hz⟩|⟨g,cap,cur,rfl,hbg,hg,_,_,_,_⟩
 . exact⟨none,0,by rw[hz],.inl (List.length_eq_zero_iff.1 hz)⟩
 . refine⟨_,cap,rfl,.inr ⟨g,rfl,(Array.getElem?_eq_some_iff.1 hg).1,fun w'' hsz hag=> ?_⟩⟩;refine(h w'' hsz (fun p p1 p2 _=>hag p p1 p2)).holds (fun j u hu=> ?_);rw[hag _ hbg (Array.getElem?_eq_some_iff.1 hg).1];have:=ho'.cells (g:=g) rfl j u hu
   rwa [Go.WideShapes.add_plain]at this
theorem Ze (b b':Bool) (n n':Int) (t t':ByteArray) (l l':List Val) (on on':Nat) (la oa la' oa':Option Addr) (lc oc lc' oc':Nat) (w:World) (IH: ∀v ∈ l,Xa v) (p:Prop) (hp:Ib l l'=true ↔ p)
 (hl:l= []\/ ∃g off,la=some ⟨g,off,none⟩/\g<w.heap.size/\Aj w w.heap.size l g off) (hl':l'= []\/ ∃g off,la'=some ⟨g,off,none⟩/\g<w.heap.size/\Aj w w.heap.size l' g off)
 (hb:Bd l<=100000000) (hb':Bd l'<=100000000):
 Calls Tryz.prog 64 #[.agg #[.int .i64 5,.bool b,.int .i64 n,.string t,.slice la l.length lc,.slice oa on oc],.agg #[.int .i64 5,.bool b',.int .i64 n',.string t',.slice la' l'.length lc',.slice oa' on' oc']] w (Ap p w):=by
 have hln:=Df l;have hln':=Df l';obtain⟨HI,Hp⟩:=hid2 IH hp;have H0:Hid (∀j x y,j<0->l[j]? =some x->l'[j]? =some y->Bt x y=true):=fun _ _ _ e=>absurd e (Nat.not_lt_zero _);clear IH hp;obtain⟨w2,hw2⟩: ∃w2,(w.alloc (Vi 5 b n t (.slice la l.length lc) (.slice oa on oc))).alloc (Vi 5 b' n' t' (.slice la' l'.length lc') (.slice oa' on' oc'))=w2:=⟨_,rfl⟩;have HBW:=qz (show Below w.heap.size w w2 from by rw[<-hw2];exact A8 _ _ _);have hx1:w2.heap[w.heap.size]? =some (.cells #[.int .i64 5,.bool b,.int .i64 n,.string t,.slice la l.length lc,.slice oa on oc] 33 (0,0)):=by
  rw[<-hw2,Lib.alloc_old _ _ _ (by simp)];exact heap_alloc_new _ _
 have hx2:w2.heap[w.heap.size+1]? =some (.cells #[.int .i64 5,.bool b',.int .i64 n',.string t',.slice la' l'.length lc',.slice oa' on' oc'] 33 (0,0)):=by
  rw[<-hw2];have:=heap_alloc_new (w.alloc (Vi 5 b n t (.slice la l.length lc) (.slice oa on oc))) (.cells #[.int .i64 5,.bool b',.int .i64 n',.string t',.slice la' l'.length lc',.slice oa' on' oc'] 33);simpa using this
 obtain⟨HX1,HX2⟩:=hid2 hx1 hx2;clear hx1 hx2;subst hw2;go_enter Tryz.func64,Tryz.ntmps64;go_wp2_with (fail);go_loopw [5] (fun i wr=> ∃k:Nat,i=.int .i64 k/\k<=l.length/\k<=l'.length/\Hid (∀j x y,j<k->l[j]? =some x->l'[j]? =some y->Bt x y=true)/\Hid (Below w.heap.size w wr)/\
  Hid (wr.heap[w.heap.size]? =some (.cells #[.int .i64 5,.bool b,.int .i64 n,.string t,.slice la l.length lc,.slice oa on oc] 33 (0,0)))/\
  Hid (wr.heap[w.heap.size+1]? =some (.cells #[.int .i64 5,.bool b',.int .i64 n',.string t',.slice la' l'.length lc',.slice oa' on' oc'] 33 (0,0)))) (fun i _=>l.length - (intOf i).toNat)
 case atStart=>exact⟨0,rfl,Nat.zero_le _,Nat.zero_le _,H0,HBW,HX1,HX2⟩
 case round=>
  obtain⟨k,rfl,hk,hk',ht,hbw,hx1,hx2⟩:=hrel;clear H0 HBW HX1 HX2;have b1:wr.cell? ⟨w.heap.size,4,none⟩=some (.slice la l.length lc):=by rw[Lib.cell_of_heap hx1.out];rfl
  have b2:wr.cell? ⟨w.heap.size+1,4,none⟩=some (.slice la' l'.length lc'):=by rw[Lib.cell_of_heap hx2.out];rfl
  have z2:w.heap.size+1<wr.heap.size:=(Array.getElem?_eq_some_iff.1 hx2.out).1;by_cases hlt:k<l.length
  . by_cases hlt2:k<l'.length
    . obtain⟨g,off,rfl,hg,hL⟩: ∃g off,la=some ⟨g,off,none⟩/\g<w.heap.size/\Aj w w.heap.size l g off:=by
       rcases hl with rfl|h
       . simp at hlt
       . exact h
      obtain⟨g',off',rfl,hg',hL'⟩: ∃g off,la'=some ⟨g,off,none⟩/\g<w.heap.size/\Aj w w.heap.size l' g off:=by
       rcases hl' with rfl|h
       . simp at hlt2
       . exact h
      obtain⟨x,hx⟩: ∃v,l[k]? =some v:=⟨_,List.getElem?_eq_getElem hlt⟩;obtain⟨y,hy⟩: ∃v,l'[k]? =some v:=⟨_,List.getElem?_eq_getElem hlt2⟩;have hxm:=List.mem_of_getElem? hx;have hym:=List.mem_of_getElem? hy;have hxb:=Dg hxm;have hyb:=Dg hym;have IHx:=HI.out x hxm;have hxy:Bt x y=true->(∀j x y,j<k+1->l[j]? =some x->l'[j]? =some y->Bt x y=true):=by
       intro e j x' y' hj h1 h2;rcases Nat.lt_succ_iff_lt_or_eq.1 hj with hj|rfl
       . exact ht.out j x' y' hj h1 h2
       . rw[hx]at h1;rw[hy]at h2;rw[<-Option.some.inj h1,<-Option.some.inj h2];exact e
      have Hxn:Hid (¬Bt x y=true-> ¬Ib l l'=true):=fun e h=>e ((Es.1 h).2 k x y hx hy);have Hxy:=qz hxy;have hz:=hbw.out.size;obtain⟨k1,b1',n1,t1,l1,o1⟩:=x;obtain⟨k2,b2',n2,t2,l2,o2⟩:=y;obtain⟨la1,lc1,oa1,oc1,hv1,c0,c1,c2,c3,c4,c5⟩:=(hL.below hg hbw.out).six hx;obtain⟨la2,lc2,oa2,oc2,hv2,e0,e1,e2,e3,e4,e5⟩:=(hL'.below hg' hbw.out).six hy;have hbd:=Below.drew hbw.out;have CC:=IHx _ _ _ wr.drew (Ae.more hz _ _ (hv1.below (Below.drew (Below.refl _ _)))) (Ae.more hz _ _ (hv2.below (Below.drew (Below.refl _ _)))) (by omega) (by omega);obtain⟨Q,hQ⟩: ∃Q:Prop,(Bt (Val.mk k1 b1' n1 t1 l1 o1) (Val.mk k2 b2' n2 t2 l2 o2)=true)=Q:=⟨_,rfl⟩;rw[hQ]at CC Hxy;have Hxn':Hid (¬Q-> ¬Ib l l'=true):=by rw[<-hQ];exact Hxn
      have HC:=qz CC;clear CC hQ Hxn hxy IHx hxb hyb hxm hym hv1 hv2 hx hy hL hL' hbd hg hg' ht;go_wp2_with (fail)
      go_region_with (go_at_call 64;refine(HC.out).mono ?_;rintro e w4 ⟨c,rfl,hc,hb4⟩)
      all_goals
       have Hc:=qz hc;have hb4':Below wr.heap.size wr w4:=(Below.drew (Below.refl _ _)).trans hb4;have hbw4:=qz (hbw.out.trans (hb4'.mono hz));have hx1':=qz ((hb4'.block _ (by omega)).trans hx1.out);have hx2':=qz ((hb4'.block _ z2).trans hx2.out);clear hc hb4 hb4' hbw hx1 hx2 HC c0 c1 c2 c3 c4 c5 e0 e1 e2 e3 e4 e5 b1 b2;by_cases hc0:c=0
       . have Hn:=qz (Hxy.out (Hc.out.1 hc0));subst hc0;clear Hc;go_wp2;go_roundw
         case rel=>exact⟨k+1,by go_num,by omega,by omega,Hn,hbw4,hx1',hx2'⟩
         case measure=>simp only[intOf];omega
       . have hne:=Hxn'.out (fun e=>hc0 (Hc.out.2 e));have f1:(c==0)=false:=by simpa using hc0
         have f2:(c != 0)=true:=by simpa using hc0
         have Hf:Hid (c=0 ↔ p):=⟨fun e=>absurd e hc0,fun e=>absurd (Hp.out.2 e) hne⟩;clear Hc hne hc0;go_wp2;go_ret;exact Ap.of Hf.out hbw4.out
    . have hk2:k=l'.length:=by omega
      subst hk2;have hne: ¬Ib l l'=true:=fun h=>by have:=(Es.1 h).1;omega
      obtain⟨C,hC⟩: ∃C,Ei (l.length:Int) (l'.length:Int)=C:=⟨_,rfl⟩;have cN:=fun w=>Dh (l.length:Int) (l'.length:Int) w;rw[hC]at cN;have HN:=qz cN;have hcz:C≠0:=by rw[<-hC,Ne,B3];omega
      have Hf:Hid (C=0 ↔ p):=⟨fun e=>absurd e hcz,fun e=>absurd (Hp.out.2 e) hne⟩;clear cN hC hcz hne ht hl hl';go_wp2_with (fail);(with_reducible refine(HN.out _).mono ?_);rintro e w' ⟨rfl,rfl⟩;go_wp2;go_ret;exact Ap.of Hf.out hbw.out
  . have hk2:k=l.length:=by omega
    subst hk2;obtain⟨C,hC⟩: ∃C,Ei (l.length:Int) (l'.length:Int)=C:=⟨_,rfl⟩;have cN:=fun w=>Dh (l.length:Int) (l'.length:Int) w;rw[hC]at cN;have HN:=qz cN;have Hf:Hid (C=0 ↔ p):=by
     show _ ↔ _;rw[<-hC,B3,<-Hp.out];constructor
     . intro h;exact Es.2 ⟨by omega,fun j x y h1 h2=>ht.out j x y (List.getElem?_eq_some_iff.1 h1).1 h1 h2⟩
     . intro h;have:=(Es.1 h).1;omega
    clear cN hC ht hl hl';go_wp2_with (fail);(with_reducible refine(HN.out _).mono ?_);rintro e w' ⟨rfl,rfl⟩;go_wp2;go_ret;exact Ap.of Hf.out hbw.out
theorem Aah (b b':Bool) (n n':Int) (t t':ByteArray) (l l':List (ByteArray×Val)) (ln ln':Nat) (la oa la' oa':Option Addr) (lc oc lc' oc':Nat) (w:World) (IH: ∀m ∈ l,Xa m.2) (p:Prop) (hp:G1 l l'=true ↔ p)
 (hl:l= []\/ ∃g off,oa=some ⟨g,off,none⟩/\g<w.heap.size/\Ak w w.heap.size l g off) (hl':l'= []\/ ∃g off,oa'=some ⟨g,off,none⟩/\g<w.heap.size/\Ak w w.heap.size l' g off)
 (hb:Af l<=100000000) (hb':Af l'<=100000000):
 Calls Tryz.prog 64 #[.agg #[.int .i64 6,.bool b,.int .i64 n,.string t,.slice la ln lc,.slice oa l.length oc],.agg #[.int .i64 6,.bool b',.int .i64 n',.string t',.slice la' ln' lc',.slice oa' l'.length oc']] w (Ap p w):=by
 have hln:=Aw l;have hln':=Aw l';obtain⟨HI,Hp⟩:=hid2 IH hp;have H0:Hid (∀j x y,j<0->l[j]? =some x->l'[j]? =some y->I5 x y=true):=fun _ _ _ e=>absurd e (Nat.not_lt_zero _);clear IH hp;obtain⟨w2,hw2⟩: ∃w2,(w.alloc (Vi 6 b n t (.slice la ln lc) (.slice oa l.length oc))).alloc (Vi 6 b' n' t' (.slice la' ln' lc') (.slice oa' l'.length oc'))=w2:=⟨_,rfl⟩;have HBW:=qz (show Below w.heap.size w w2 from by rw[<-hw2];exact A8 _ _ _);have hx1:w2.heap[w.heap.size]? =some (.cells #[.int .i64 6,.bool b,.int .i64 n,.string t,.slice la ln lc,.slice oa l.length oc] 33 (0,0)):=by
  rw[<-hw2,Lib.alloc_old _ _ _ (by simp)];exact heap_alloc_new _ _
 have hx2:w2.heap[w.heap.size+1]? =some (.cells #[.int .i64 6,.bool b',.int .i64 n',.string t',.slice la' ln' lc',.slice oa' l'.length oc'] 33 (0,0)):=by
  rw[<-hw2];have:=heap_alloc_new (w.alloc (Vi 6 b n t (.slice la ln lc) (.slice oa l.length oc))) (.cells #[.int .i64 6,.bool b',.int .i64 n',.string t',.slice la' ln' lc',.slice oa' l'.length oc'] 33);simpa using this
 obtain⟨HX1,HX2⟩:=hid2 hx1 hx2;clear hx1 hx2;subst hw2;go_enter Tryz.func64,Tryz.ntmps64;go_wp2_with (fail);go_loopw [7] (fun i wr=> ∃k:Nat,i=.int .i64 k/\k<=l.length/\k<=l'.length/\Hid (∀j x y,j<k->l[j]? =some x->l'[j]? =some y->I5 x y=true)/\Hid (Below w.heap.size w wr)/\
  Hid (wr.heap[w.heap.size]? =some (.cells #[.int .i64 6,.bool b,.int .i64 n,.string t,.slice la ln lc,.slice oa l.length oc] 33 (0,0)))/\
  Hid (wr.heap[w.heap.size+1]? =some (.cells #[.int .i64 6,.bool b',.int .i64 n',.string t',.slice la' ln' lc',.slice oa' l'.length oc'] 33 (0,0)))) (fun i _=>l.length - (intOf i).toNat)
 case atStart=>exact⟨0,rfl,Nat.zero_le _,Nat.zero_le _,H0,HBW,HX1,HX2⟩
 case round=>
  obtain⟨k,rfl,hk,hk',ht,hbw,hx1,hx2⟩:=hrel;clear H0 HBW HX1 HX2;have b1:wr.cell? ⟨w.heap.size,5,none⟩=some (.slice oa l.length oc):=by rw[Lib.cell_of_heap hx1.out];rfl
  have b2:wr.cell? ⟨w.heap.size+1,5,none⟩=some (.slice oa' l'.length oc'):=by rw[Lib.cell_of_heap hx2.out];rfl
  have z2:w.heap.size+1<wr.heap.size:=(Array.getElem?_eq_some_iff.1 hx2.out).1;by_cases hlt:k<l.length
  . by_cases hlt2:k<l'.length
    . obtain⟨g,off,rfl,hg,hL⟩: ∃g off,oa=some ⟨g,off,none⟩/\g<w.heap.size/\Ak w w.heap.size l g off:=by
       rcases hl with rfl|h
       . simp at hlt
       . exact h
      obtain⟨g',off',rfl,hg',hL'⟩: ∃g off,oa'=some ⟨g,off,none⟩/\g<w.heap.size/\Ak w w.heap.size l' g off:=by
       rcases hl' with rfl|h
       . simp at hlt2
       . exact h
      obtain⟨⟨key,x⟩,hx⟩: ∃v,l[k]? =some v:=⟨_,List.getElem?_eq_getElem hlt⟩;obtain⟨⟨key',y⟩,hy⟩: ∃v,l'[k]? =some v:=⟨_,List.getElem?_eq_getElem hlt2⟩;have hxm:=List.mem_of_getElem? hx;have hym:=List.mem_of_getElem? hy;have hxb:=C3 hxm;have hyb:=C3 hym;simp only at hxb hyb;have IHx:=HI.out _ hxm;simp only at IHx;have hxy:key=key'->Bt x y=true->(∀j x y,j<k+1->l[j]? =some x->l'[j]? =some y->I5 x y=true):=by
       intro e e' j x' y' hj h1 h2;rcases Nat.lt_succ_iff_lt_or_eq.1 hj with hj|rfl
       . exact ht.out j x' y' hj h1 h2
       . rw[hx]at h1;rw[hy]at h2;rw[<-Option.some.inj h1,<-Option.some.inj h2];simp[I5,e,e']
      have hkn:key≠key'-> ¬G1 l l'=true:=fun e h=>by
       have:=(Ec.1 h).2 k _ _ hx hy;simp only[I5,Bool.and_eq_true,decide_eq_true_eq]at this;exact e this.1
      have hxn: ¬Bt x y=true-> ¬G1 l l'=true:=fun e h=>by
       have:=(Ec.1 h).2 k _ _ hx hy;simp only[I5,Bool.and_eq_true,decide_eq_true_eq]at this;exact e this.2
      obtain⟨Hkn,Hxn⟩:=hid2 hkn hxn;have hz:=hbw.out.size;have c0:=((hL.below hg hbw.out).at_ hx).1;have e0:=((hL'.below hg' hbw.out).at_ hy).1;simp only at c0 e0;have HT:=qz (Lq key key' wr.drew (by omega) (by omega));have HL:Hid (∀w',Below w.heap.size w w'->Ak w' w.heap.size l g off):=fun w' h=>hL.below hg h;have HL':Hid (∀w',Below w.heap.size w w'->Ak w' w.heap.size l' g' off'):=fun w' h=>hL'.below hg' h;obtain⟨Hx,Hy⟩:=hid2 hx hy;obtain⟨Q,hQ⟩: ∃Q:Prop,(Bt x y=true)=Q:=⟨_,rfl⟩;have CC: ∀(w':World) (ca cb:List Value),Ae w' w'.heap.size x ca->Ae w' w'.heap.size y cb->Calls Tryz.prog 64 #[.agg ca.toArray,.agg cb.toArray] w' (Ap Q w'):=by
       intro w' ca cb h1 h2;rw[<-hQ];exact IHx y ca cb w' h1 h2 (by omega) (by omega)
      rw[hQ]at hxy;have Hxy:=qz hxy;have Hxn':Hid (¬Q-> ¬G1 l l'=true):=by rw[<-hQ];exact Hxn
      have HC:=qz CC;clear CC hQ hxy hkn hxn Hxn IHx hxb hyb hxm hym hx hy hL hL' hg hg' ht;go_wp2_with (fail)
      go_still_tail 12,(by kernel_rfl)
      change wpList _ _ _ _ _ wr.drew;go_wp2_with (fail);(with_reducible refine(HT.out).mono ?_);rintro e w4 ⟨c,rfl,hc,hb4⟩
      all_goals
       have Hc:=qz hc;have hb4':Below wr.heap.size wr w4:=(Below.drew (Below.refl _ _)).trans hb4;have hbw4:=qz (hbw.out.trans (hb4'.mono hz));have hx1':=qz ((hb4'.block _ (by omega)).trans hx1.out);have hx2':=qz ((hb4'.block _ z2).trans hx2.out);have hz4:w.heap.size<=w4.heap.size:=hbw4.out.size;have z4:w.heap.size+1<w4.heap.size:=(Array.getElem?_eq_some_iff.1 hx2'.out).1;clear hc hb4 hb4' hbw hx1 hx2 HT c0 e0 b1 b2;by_cases hc0:c=0
       . have hkk:=qz (Hc.out.1 hc0);subst hc0;clear Hc;have b1:w4.cell? ⟨w.heap.size,5,none⟩=some (.slice (some ⟨g,off,none⟩) l.length oc):=by rw[Lib.cell_of_heap hx1'.out];rfl
         have b2:w4.cell? ⟨w.heap.size+1,5,none⟩=some (.slice (some ⟨g',off',none⟩) l'.length oc'):=by rw[Lib.cell_of_heap hx2'.out];rfl
         obtain⟨k1,b1',n1,t1,l1,o1⟩:=x;obtain⟨k2,b2',n2,t2,l2,o2⟩:=y;obtain⟨la1,lc1,oa1,oc1,hv1,_,c1,c2,c3,c4,c5,c6⟩:=(HL.out _ hbw4.out).seven Hx.out;obtain⟨la2,lc2,oa2,oc2,hv2,_,e1,e2,e3,e4,e5,e6⟩:=(HL'.out _ hbw4.out).seven Hy.out;have hC4:=qz (HC.out w4.drew _ _ (Ae.more hz4 _ _ (hv1.below (Below.drew (Below.refl _ _)))) (Ae.more hz4 _ _ (hv2.below (Below.drew (Below.refl _ _)))));clear HC hv1 hv2 HL HL' Hx Hy;go_wp2_with (fail)
         go_still_tail 12,(by kernel_rfl)
         change wpList _ _ _ _ _ w4.drew;go_wp2_with (fail);(with_reducible refine(hC4.out).mono ?_);rintro e w5 ⟨c',rfl,hc',hb5⟩
         all_goals
          have Hc:=qz hc';have hb5':Below w4.heap.size w4 w5:=(Below.drew (Below.refl _ _)).trans hb5;have hbw5:=qz (hbw4.out.trans (hb5'.mono hz4));have hx1'':=qz ((hb5'.block _ (by omega)).trans hx1'.out);have hx2'':=qz ((hb5'.block _ z4).trans hx2'.out);clear hc' hb5 hb5' hbw4 hx1' hx2' hC4 c1 c2 c3 c4 c5 c6 e1 e2 e3 e4 e5 e6 b1 b2;by_cases hc0:c'=0
          . have Hn:=qz (Hxy.out hkk.out (Hc.out.1 hc0));subst hc0;clear Hc;go_wp2;go_roundw
            case rel=>exact⟨k+1,by go_num,by omega,by omega,Hn,hbw5,hx1'',hx2''⟩
            case measure=>simp only[intOf];omega
          . have hne:=Hxn'.out (fun e=>hc0 (Hc.out.2 e));have f1:(c'==0)=false:=by simpa using hc0
            have f2:(c' != 0)=true:=by simpa using hc0
            have Hf:Hid (c'=0 ↔ p):=⟨fun e=>absurd e hc0,fun e=>absurd (Hp.out.2 e) hne⟩;clear Hc hne hc0;go_wp2;go_ret;exact Ap.of Hf.out hbw5.out
       . have hne:=Hkn.out (fun e=>hc0 (Hc.out.2 e));have f1:(c==0)=false:=by simpa using hc0
         have f2:(c != 0)=true:=by simpa using hc0
         have Hf:Hid (c=0 ↔ p):=⟨fun e=>absurd e hc0,fun e=>absurd (Hp.out.2 e) hne⟩;clear Hc hne hc0;go_wp2;go_ret;exact Ap.of Hf.out hbw4.out
    . have hk2:k=l'.length:=by omega
      subst hk2;have hne: ¬G1 l l'=true:=fun h=>by have:=(Ec.1 h).1;omega
      obtain⟨C,hC⟩: ∃C,Ei (l.length:Int) (l'.length:Int)=C:=⟨_,rfl⟩;have cN:=fun w=>Dh (l.length:Int) (l'.length:Int) w;rw[hC]at cN;have HN:=qz cN;have hcz:C≠0:=by rw[<-hC,Ne,B3];omega
      have Hf:Hid (C=0 ↔ p):=⟨fun e=>absurd e hcz,fun e=>absurd (Hp.out.2 e) hne⟩;clear cN hC hcz hne ht hl hl';go_wp2_with (fail);(with_reducible refine(HN.out _).mono ?_);rintro e w' ⟨rfl,rfl⟩;go_wp2;go_ret;exact Ap.of Hf.out hbw.out
  . have hk2:k=l.length:=by omega
    subst hk2;obtain⟨C,hC⟩: ∃C,Ei (l.length:Int) (l'.length:Int)=C:=⟨_,rfl⟩;have cN:=fun w=>Dh (l.length:Int) (l'.length:Int) w;rw[hC]at cN;have HN:=qz cN;have Hf:Hid (C=0 ↔ p):=by
     show _ ↔ _;rw[<-hC,B3,<-Hp.out];constructor
     . intro h;exact Ec.2 ⟨by omega,fun j x y h1 h2=>ht.out j x y (List.getElem?_eq_some_iff.1 h1).1 h1 h2⟩
     . intro h;have:=(Ec.1 h).1;omega
    clear cN hC ht hl hl';go_wp2_with (fail);(with_reducible refine(HN.out _).mono ?_);rintro e w' ⟨rfl,rfl⟩;go_wp2;go_ret;exact Ap.of Hf.out hbw.out
theorem Wq: ∀a,Xa a:=by
 refine Val.ind ?_;intro k b n t l o IHl IHo v cs cs' w hV hV' hb hb';obtain⟨k',b',n',t',l',o'⟩:=v;simp only[Ae]at hV hV';obtain⟨la,lc,oa,oc,rfl,hla,hoa⟩:=hV;obtain⟨la',lc',oa',oc',rfl,hla',hoa'⟩:=hV';simp only[Val.bulk]at hb hb';by_cases hkk:k≠k'
 . exact Xr k k' b b' n n' t t' _ _ _ _ w hkk _ (fun e=>by simp only[Bt,Bool.and_eq_true,decide_eq_true_eq]at e;exact hkk e.1)
 obtain rfl:k=k':=by omega
 by_cases h2:k=2
 . subst h2;exact Xq b b' n n' t t' _ _ _ _ w _ (by simp[Bt])
 by_cases h3:k=3
 . subst h3;exact Zu b b' n n' t t' _ _ _ _ w _ (by simp[Bt])
 by_cases h4:k=4
 . subst h4;exact Xs b b' n n' t t' _ _ _ _ w _ (by omega) (by omega) (by simp[Bt])
 by_cases h5:k=5
 . subst h5;exact Ze b b' n n' t t' l l' _ _ la oa la' oa' lc oc lc' oc' w IHl _ (by simp[Bt]) hla hla' (by omega) (by omega)
 by_cases h6:k=6
 . subst h6;exact Aah b b' n n' t t' o o' _ _ la oa la' oa' lc oc lc' oc' w IHo _ (by simp[Bt]) hoa hoa' (by omega) (by omega)
 exact Zv k h2 h3 h4 h5 h6 b b' n n' t t' _ _ _ _ w _ (by simp[Bt,h2,h3,h4,h5,h6])
end Go.Proofs.YtdbejcbbhomdbaaGreatDoor
