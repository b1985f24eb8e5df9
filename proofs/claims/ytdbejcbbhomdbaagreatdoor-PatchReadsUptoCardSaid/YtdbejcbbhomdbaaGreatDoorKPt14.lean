/- Parts: A reader of values, byte by byte: what stands at a place of a text, and where that ends, or what is wrong, and where. Plain. No condition. -/
import Derived.Test.YtdbejcbbhomdbaaGreatDoorKPt9
import Derived.Test.YtdbejcbbhomdbaaGreatDoorKPt11
set_option maxHeartbeats 20000000
namespace Go.Proofs.YtdbejcbbhomdbaaGreatDoor
theorem Sw {k a:ByteArray} {x:Val} {r:List Bz} (h:Cg a k=true):Ev k ((a,x)::r)=Ev k r/\Fh k ((a,x)::r)=Fh k r+1:=by
 have e:Fh k ((a,x)::r)=Fh k r+1:=by simp only[Fh,if_pos h]
 refine⟨?_,e⟩;unfold Ev;rw[e,List.getElem?_cons_succ]
theorem P8 (k:ByteArray) (v:Val): ∀l:List Bz,Cq k v l=if Ev k l=true then l.set (Fh k l) (k,v)else l.take (Fh k l)++ [(k,v)]++l.drop (Fh k l)
 | []=>by simp[Cq,Fh,Ev]
 |(a,x)::r=>by
  simp only[Cq];by_cases h:Cg a k=true
  . obtain⟨e1,e2⟩:=Sw (x:=x) (r:=r) h;rw[if_pos h,P8 k v r,e1,e2];by_cases hh:Ev k r=true
    . rw[if_pos hh,if_pos hh,tk6]
    . rw[if_neg hh,if_neg hh];simp
  . have e:Fh k ((a,x)::r)=0:=by simp only[Fh,if_neg h]
    have eh:Ev k ((a,x)::r)=(a.toList==k.toList):=by unfold Ev;rw[e];rfl
    rw[if_neg h,e,eh];by_cases hk:a=k
    . subst hk;rw[if_pos rfl,if_pos (by simp)];rfl
    . rw[if_neg hk,if_neg fun e=>hk (Fg (by simpa using e))];rfl
theorem K7 (k:ByteArray) (v:Val): ∀l:List Bz,Ag (Cq k v l)<=Ag l+Ag [(k,v)]
 | []=>by simp[Cq,Ag]
 |(a,x)::r=>by
  have ih:=K7 k v r;simp only[Cq]
  split
  . simp only[Ag]at ih ⊢;omega
  . split
    . simp only[Ag]at ih ⊢;omega
    . simp only[Ag]at ih ⊢;omega
def Fy (h:Nat) (ks:List Nd) (k:ByteArray) (v:Val):List Nd:=
 ks.take (At ks k)++(B9 h (ks.getD (At ks k) (.leaf [])) k v).1::((B9 h (ks.getD (At ks k) (.leaf [])) k v).2.toList++ks.drop (At ks k+1))
theorem Acj {h lo:Nat} {ks:List Nd} (k:ByteArray) (v:Val) (hlo:2<=lo) (hn:Fj lo (h+1) (.inner ks)) (ha:Bq (Au ks)):
 ∃x,ks[At ks k]? =some x/\ks.getD (At ks k) (.leaf [])=x/\Fj 4 h x/\Bq (Co x)/\(Co x).length<=(Au ks).length/\Ag (Co x)<=Ag (Au ks)/\
  Au (Fy h ks k v)=Cq k v (Au ks)/\(∀y ∈ Fy h ks k v,Fj 4 h y)/\2<=(Fy h ks k v).length/\(Fy h ks k v).length<=9:=by
 simp only[Fj]at hn;obtain⟨h2,h8,hk⟩:=hn;have hne:ks≠ []:=by intro e;rw[e]at h2;simp at h2;omega
 obtain⟨A,x,C,e,hA,hlow,hhi⟩:=Ml (k:=k) hne hk ha;have hx:Fj 4 h x:=hk x (by rw[e];simp);have hax:Bq (Co x):=by
  have ha':Bq (Au ks):=ha;rw[e,B6]at ha';have:=(List.pairwise_append.1 ha').2.1;simp only[Au]at this;exact(List.pairwise_append.1 this).1
 obtain⟨i1,i2,i3⟩:=Mm h (k:=k) (v:=v) (Nat.le_refl 4) (.inl (by omega)) (fun _=>by omega) hx hax;have eg:ks.getD (At ks k) (.leaf [])=x:=by rw[<-hA,e];simp
 have eq:ks[At ks k]? =some x:=by rw[<-hA,e];simp
 have et:ks.take (At ks k)=A:=by rw[<-hA,e];simp
 have ed:ks.drop (At ks k+1)=C:=by rw[<-hA,e];simp
 have hlen:ks.length=A.length+1+C.length:=by rw[e];simp;omega
 have hR:(B9 h x k v).2.toList.length<=1:=by cases (B9 h x k v).2<;>simp
 have hfl:Au ks=Au A++(Co x++Au C):=by rw[e,B6];simp[Au]
 have hW:Fy h ks k v=A++(B9 h x k v).1::((B9 h x k v).2.toList++C):=by
  unfold Fy;rw[eg,et,ed]
 refine⟨x,eq,eg,hx,hax,by rw[hfl];simp;omega,by rw[hfl,Dl,Dl];omega, ?_,fun y hy=> ?_,by rw[hW];simp;omega,by rw[hW];simp;omega⟩
 . rw[hW,B6];simp only[Au,B6];have i1':Co (B9 h x k v).1++Au (B9 h x k v).2.toList=Cq k v (Co x):=i1;rw[<-List.append_assoc (Co (B9 h x k v).1),i1',hfl,P7 hlow,M6 hhi]
 . rw[hW]at hy;rcases List.mem_append.1 hy with hy|hy
   . exact hk y (by rw[e];simp[hy])
   rcases List.mem_cons.1 hy with rfl|hy
   . exact i2
   rcases List.mem_append.1 hy with hy|hy
   . exact(i3 y (by simpa using hy)).2
   . exact hk y (by rw[e];simp[hy])
end Go.Proofs.YtdbejcbbhomdbaaGreatDoor
namespace Go.Proofs.YtdbejcbbhomdbaaGreatDoor
open Go.RowKit
def Sg {α β:Type} (P:Program) (gf:Nat) (lb:Array Value) (encs:α->β->Array Value) (E:α->β->World->Prop) (xs:List α) (N:World->Prop):Prop:=
 ∀(n l:Nat) (J:List α->World->Prop) (W:World),(∀s A B,J s A->Below A.heap.size A B->J s B)->(∀s A,J s A->N A)->
  (∀pre x rest q A,xs=pre++x::rest->J pre A->E x q A->YieldAt Fence.wide n P l (encs x q) A fun e B=>e=.returned (.bool true)/\J (pre++ [x]) B)->
  J [] W->CallsIn Fence.wide (n+1) P gf (#[.func (.yield l) #[] #[]]++lb) W fun e B=>(∃v,e=.returned v)/\J xs B
theorem K1 {α β:Type} {P:Program} {g:Operand} {ps:Array Tmp} {assign body:Code} {Q:Exit->Act->World->Prop} {a:Act} {w:World} {n:Nat}
 {gf:Nat} {lb:Array Value} (hg:a.eval g=.func (.func gf) #[] lb) (eg: ∀args w,(callFunc gf args).run P w=.ok (.enter gf args) w)
 {encs:α->β->Array Value} {E:α->β->World->Prop} {xs:List α} {N:World->Prop} (hit:Sg P gf lb encs E xs N) (hps: ∀x q,(encs x q).size=ps.size)
 (hEp: ∀x q A k o o',E x q A->A.heap[k]? =some o->o.isCells=false->E x q (A.putObj k o'))
 (I:List α->World->Prop) (hIn: ∀s A B,I s A->Below A.heap.size A B->I s B)
 (hIp: ∀s A k o o',I s A->A.heap[k]? =some o->o.isCells=false->(k=w.heap.size\/k=w.heap.size+1)->I s (A.putObj k o'))
 (hIb: ∀s A,I s A->N A) (h0:I [] w) (a₁:α->β->Act)
 (hassign: ∀(l:Nat) (x:α) (q:β) (W:World) (K:Act->World->Prop),K (a₁ x q) W->
   assign.wpIn (Fence.wide.inRound l) n P (Exit.then K (fun _ _ _=>False)) {tmps:=(ps.zip (encs x q)).foldl (fun t (p,v)=>t.setIfInBounds p v) a.tmps,defers:= []} W)
 (hbody: ∀(l:Nat) (pre:List α) (x:α) (rest:List α) (q:β) (W:World),xs=pre++x::rest->I pre W->E x q W->(∃ds,W.heap[w.heap.size]? =some (.deferred ds))->(∃r,W.heap[w.heap.size+1]? =some (.loop r))->
   body.wpIn (Fence.wide.inRound l) n P (Mv (I (pre++ [x])) w.heap.size W) (a₁ x q) W)
 (hdone: ∀(W:World),I xs W->W.heap[w.heap.size]? =some (.deferred (some []))->Q .normal {a with defers:={target:=.collected w.heap.size,args:= #[]}::a.defers} W):
 (Code.rangeFunc g ps assign body).wpIn Fence.wide (n+1+1) P Q a w:=by
 refine wpIn_rangeFunc ?_;intro fn hfn;have hro:Fence.wide.round=none:=rfl;rw[hro];obtain⟨rec,hrec⟩: ∃rec:LoopState->Option Code->Loop,rec=fun st pe=>{state:=st,pending:=pe,fn,tmps:=a.tmps,params:=ps,assign,body,defers:=w.heap.size}:=⟨_,rfl⟩;obtain⟨W1,hW1⟩: ∃W1,(w.alloc (.deferred (some []))).alloc (.loop (rec .ready none))=W1:=⟨_,rfl⟩;have hL1:W1.heap[w.heap.size+1]? =some (.loop (rec .ready none)):=by
  rw[<-hW1];have:=World.alloc_heap_new (w.alloc (.deferred (some []))) (.loop (rec .ready none));rwa [World.size_alloc]at this
 have hK1:W1.heap[w.heap.size]? =some (.deferred (some [])):=by
  rw[<-hW1];exact(Below.heap_alloc _ _ _ (by simp)).trans (World.alloc_heap_new w _)
 have hI1:I [] W1:=by
  rw[<-hW1];exact hIn _ _ _ h0 (((Below.refl _ w).alloc (Nat.le_refl _) _).alloc (by simp) _)
 refine⟨w.heap.size+1, [{target:=.collected w.heap.size,args:= #[]}],W1,{target:=.fn (.func gf) lb,args:= #[.func (.yield (w.heap.size+1)) #[] #[]]},W1,gf,
  #[.func (.yield (w.heap.size+1)) #[] #[]]++lb,W1, ?_, ?_, ?_, ?_,fun h=>by simp[Fence.wide]at h, ?_⟩
 . rw[<-hW1,hrec];exact run_enterLoop_outer _ _ _ _ _
 . simp only[resolve,hg];simp[go_sem]
 . intro f' _;trivial
 . simp[invoke,go_sem,eg]
 . refine(hit n (w.heap.size+1)
    (fun pre W=>I pre W/\W.heap[w.heap.size+1]? =some (.loop (rec .ready none))/\W.heap[w.heap.size]? =some (.deferred (some [])))
    W1 (fun s A B hs hb=>⟨hIn s A B hs.1 hb,(hb.block _ (Array.getElem?_eq_some_iff.1 hs.2.1).1).trans hs.2.1,(hb.block _ (Array.getElem?_eq_some_iff.1 hs.2.2).1).trans hs.2.2⟩)
    (fun s A hs=>hIb s A hs.1) ?_ ⟨hI1,hL1,hK1⟩).mono ?_
   ·
    rintro pre x rest q W hx ⟨hi,hl,hk⟩ hE;have hlt:w.heap.size+1<W.heap.size:=(Array.getElem?_eq_some_iff.1 hl).1;have hy:=run_yield (P:=P) (args:=encs x q) hl (by rw[hrec];exact hps x q);rw[hrec]at hy;refine⟨fn,_,assign,body,hy,roundIn_of_wpIn trivial (hassign _ x q W _ ⟨_,run_beginRound hl (by rw[hrec]), ?_⟩)⟩;have hl2:(W.putObj (w.heap.size+1) (.loop {rec .ready none with state:=.busy})).heap[w.heap.size+1]? =some (.loop {rec .ready none with state:=.busy}):=World.putObj_heap_same hlt;have hk2:(W.putObj (w.heap.size+1) (.loop {rec .ready none with state:=.busy})).heap[w.heap.size]? =some (.deferred (some [])):=(World.putObj_heap_other (by omega)).trans hk;refine wpIn_mono (hbody _ pre x rest q _ hx (hIp _ _ _ _ _ hi hl rfl (.inr rfl)) (hEp _ _ _ _ _ _ hE hl rfl) ⟨_,hk2⟩ ⟨_,hl2⟩) ?_;rintro e a3 W3 hp
    cases e with
    |normal=>
     obtain⟨h1,h2,hi3⟩:=hp;have hl3:=h2.trans hl2;have hk3:=h1.trans hk2;have hr:=run_endRound (P:=P) none hl3;rw[hrec]at hr;refine⟨_,_,hr,rfl,hIp _ _ _ _ _ hi3 hl3 rfl (.inr rfl), ?_, ?_⟩
     . rw[World.putObj_heap_same (Array.getElem?_eq_some_iff.1 hl3).1,hrec];rfl
     . exact(World.putObj_heap_other (by omega)).trans hk3
    |ret=>exact hp.elim
    |exit id=>exact hp.elim
    |goto t=>exact hp.elim
    |panic ch=>exact hp.elim
    |outgrown=>exact hp.elim
   ·
    rintro e W2 ⟨⟨v,rfl⟩,hi,hl,hk⟩;exact⟨none,_,by have:=run_endLoop (P:=P) hl (by rw[hrec];simp);rw[hrec]at this;exact this,hdone _ (hIp _ _ _ _ _ hi hl rfl (.inr rfl)) ((World.putObj_heap_other (by omega)).trans hk)⟩
theorem Kz: ∀(n m:Nat) (l:List UInt8),l.length<=n->l.length<=m->Lib.validGoD n l=Lib.validGoD m l
 |0,m,l,hn,hm=>by
  obtain rfl:l= []:=List.eq_nil_of_length_eq_zero (by omega)
  cases m<;>simp[Lib.validGoD]
 |n+1,0,l,hn,hm=>by
  obtain rfl:l= []:=List.eq_nil_of_length_eq_zero (by omega);simp[Lib.validGoD]
 |n+1,m+1,l,hn,hm=>by
  simp only[Lib.validGoD];by_cases h:l= []
  . simp[h]
  . rw[if_neg h,if_neg h]
    split
    . rfl
    . have hw:=Lib.decodeL_width l;have hl:0<l.length:=List.length_pos_iff.2 h;exact Kz n m _ (by rw[List.length_drop];omega) (by rw[List.length_drop];omega)
theorem Wb {l:List UInt8} (h:l≠ []):Lib.validD l=if(Lib.decodeL l).1=65533/\(Lib.decodeL l).2=1 then false else Lib.validD (l.drop (Lib.decodeL l).2):=by
 have hw:=Lib.decodeL_width l;have hl:0<l.length:=List.length_pos_iff.2 h;unfold Lib.validD;obtain⟨n,hn⟩: ∃n,l.length=n+1:=⟨l.length - 1,by omega⟩;rw[hn];simp only[Lib.validGoD];rw[if_neg h]
 split
 . rfl
 . exact Kz _ _ _ (by rw[List.length_drop];omega) (Nat.le_refl _)
theorem Aaw {l:List UInt8} (h:l≠ []):((Ek l).2=0/\Lib.validD l=false)\/(∃n:Nat,(Ek l).2=(n:Int)/\1<=n/\n<=l.length/\Lib.validD l=Lib.validD (l.drop n)):=by
 have hg:=O3 l h;unfold Gk at hg;rw[Wb h];by_cases hb:(Lib.decodeL l).1=65533/\(Lib.decodeL l).2=1
 . rw[if_pos hb]at hg ⊢;rw[hg];exact .inl ⟨rfl,rfl⟩
 . rw[if_neg hb]at hg ⊢;rw[hg];have hw:=Lib.decodeL_width l;exact .inr ⟨(Lib.decodeL l).2,rfl,hw,Lib.decodeL_le l h,rfl⟩
theorem Lt (s:ByteArray) (w:World) (hs:s.size<=1000000000):
 Calls Tryz.prog 76 #[.string s] w fun e w'=>e=.returned (.bool (Aw s))/\w=w':=by
 obtain⟨V,hV⟩: ∃V,Aw s=V:=⟨_,rfl⟩;rw[hV];have H0:=qz hV;clear hV;go_enter Tryz.func76,Tryz.ntmps76;go_wp2
 go_loop [3] (fun i=> ∃k:Nat,k<=s.size/\i=.int .i64 k/\Hid (Lib.validD (s.data.toList.drop k)=V)) (fun i=>s.size - (intOf i).toNat)
 case atStart=>exact⟨0,Nat.zero_le _,rfl,H0⟩
 case round=>
  obtain⟨k,hk,rfl,hf⟩:=hrel;clear H0;by_cases hlt:k<s.size
  . have hne:s.data.toList.drop k≠ []:=by
     intro e;have:=congrArg List.length e;rw[List.length_drop,<-Lib.size_eq]at this;simp at this;omega
    have hA:=Tx s k w (by omega) (by omega);rcases Aaw hne with⟨h0,hv⟩|⟨n,hn,hn1,hn2,hv⟩
    . have hf':=hf.out;rw[hv]at hf';subst hf';rw[h0]at hA;generalize (Ek (s.data.toList.drop k)).1=R at hA;have HA:=qz hA;clear hA h0 hv hne hf;go_wp2_with (go_at_call 109;refine(HA.out).mono ?_;rintro e w' ⟨rfl,rfl⟩);go_ret;exact⟨rfl,rfl⟩
    . have hf':=hf.out;rw[hv,List.drop_drop]at hf';have Hf:=qz hf';rw[hn]at hA;rw[List.length_drop,<-Lib.size_eq]at hn2;generalize (Ek (s.data.toList.drop k)).1=R at hA;have HA:=qz hA;clear hA hn hv hne hf hf';have e0:((n:Int)==0)=false:=by simp;omega
      go_wp2_with (go_at_call 109;refine(HA.out).mono ?_;rintro e w' ⟨rfl,rfl⟩)
      go_round
      case rel=>exact⟨k+n,by omega,by go_num,Hf⟩
      case measure=>simp[intOf];omega
  . obtain rfl:k=s.size:=by omega
    have hf':=hf.out;rw[List.drop_eq_nil_of_le (by rw[<-Lib.size_eq];omega)]at hf';have:V=true:=by rw[<-hf'];rfl
    subst this;clear hf hf';go_wp2;go_ret;exact⟨rfl,rfl⟩
theorem Jz {l:List UInt8} (h:l≠ []) (f p:Nat):
 ((Ek l).2=0/\A8 (f+1) l p= [])\/(∃n r:Nat,Ek l=((r:Int),(n:Int))/\1<=n/\n<=l.length/\A8 (f+1) l p=(p,r)::A8 f (l.drop n) (p+n)):=by
 have hg:=O3 l h;unfold Gk at hg;by_cases hb:(Lib.decodeL l).1=65533/\(Lib.decodeL l).2=1
 . rw[if_pos hb]at hg;rw[hg];refine .inl ⟨rfl, ?_⟩;simp only[A8];rw[if_neg h,if_pos hb]
 . rw[if_neg hb]at hg;have hw:=Lib.decodeL_width l;refine .inr ⟨(Lib.decodeL l).2,(Lib.decodeL l).1,hg,hw,Lib.decodeL_le l h, ?_⟩;simp only[A8];rw[if_neg h,if_neg hb]
def I9 (v1 v2:Value):Prop:= ∀g,v1.ownBlock=some g->v2.ownBlock≠some g
theorem I9.ne {v1 v2:Value} (h:I9 v1 v2):v1.ownBlock=none\/v1.ownBlock≠v2.ownBlock:=by
 cases e:v1.ownBlock with
 |none=>exact .inl rfl
 |some g=>exact .inr fun e'=>h g e (by rw[<-e'])
theorem I9.symm {v1 v2:Value} (h:I9 v1 v2):I9 v2 v1:=fun g e e'=>h g e' e
theorem I9.step {v1 v1' v2:Value} {w:World} {B n N:Nat} {e:TypeId} {size:Nat} {xs:List Value} (h:I9 v1 v2) (h2:w.ownsRow B e size v2 n xs) (h4:v1'.ownBlock=v1.ownBlock\/v1'.ownBlock=some N) (hN:w.heap.size<=N):I9 v1' v2:=by
 intro g e1 e2;rcases h4 with h4|h4
 . exact h g (by rw[<-h4];exact e1) e2
 . rw[h4]at e1;obtain rfl:=Option.some.inj e1;have:=(h2.lt _ e2).2;omega
theorem Ab9:(Tryz.prog.info? 3).map (fun i=>(i.zero,i.size,i.bytes))=some (some (.int .i64 0),1,8):=by kernel_rfl
set_option maxRecDepth 20000 in
theorem Sd (s:ByteArray) (w:World) (hs:s.size<=1000000000):
 Calls Tryz.prog 83 #[.string s] w fun e w'=>(∃v1 v2,e=.returned (.tuple #[v1,v2])/\w'.ownsRow w.heap.size 3 1 v1 (Ed s).length ((Ed s).map fun x=>Value.int .i64 x.2))/\Below w.heap.size w w':=by
 obtain⟨i0,hi,hz0,hz1,hz2⟩:=info_parts Ab9;obtain⟨HI,HZ0,HZ1,HZ2⟩:=hid4 hi hz0 hz1 hz2;clear hi hz0 hz1 hz2;have Hown0:Hid (w.ownsRow w.heap.size 3 1 (.slice none 0 0) 0 []):=World.ownsRow_nil _ _ _ _;have Hap0:Hid (I9 (.slice none 0 0) (.slice none 0 0)):=qz (fun g e=>by simp[Value.ownBlock]at e);go_enter Tryz.func83,Tryz.ntmps83;go_wp2;go_loopw [4,5,6] (fun v1 v2 i wr=> ∃(pre:List (Nat×Nat)) (f k:Nat),i=.int .i64 k/\k<=s.size/\s.size - k<=f/\Hid (Ed s=pre++A8 f (s.data.toList.drop k) k)/\pre.length<=k/\
  Hid (wr.ownsRow w.heap.size 3 1 v1 pre.length (pre.map fun x=>Value.int .i64 x.2))/\Hid (wr.ownsRow w.heap.size 3 1 v2 pre.length (pre.map fun x=>Value.int .i64 x.1))/\Hid (I9 v1 v2)/\Hid (Below w.heap.size w wr)) (fun _ _ i _=>s.size - (intOf i).toNat)
 case atStart=>exact⟨[],s.size,0,rfl,Nat.zero_le _,by omega,rfl,Nat.le_refl _,Hown0,Hown0,Hap0,Below.refl _ _⟩
 case round=>
  obtain⟨pre,f,k,rfl,hk,hf,hr,hpk,ho1,ho2,hap,hbw⟩:=hrel;clear Hown0 Hap0;by_cases hlt:k<s.size
  . have hne:s.data.toList.drop k≠ []:=by
     intro e;have:=congrArg List.length e;rw[List.length_drop,<-Lib.size_eq]at this;simp at this;omega
    obtain⟨f,rfl⟩: ∃f',f=f'+1:=⟨f - 1,by omega⟩;have hA:=Tx s k wr (by omega) (by omega);rcases Jz hne f k with⟨h0,hv⟩|⟨n,r,hn,hn1,hn2,hv⟩
    . have hr':=hr.out;rw[hv,List.append_nil]at hr';rw[h0]at hA;generalize (Ek (s.data.toList.drop k)).1=R at hA;obtain⟨HA,HR⟩:=hid2 hA hr';clear hA h0 hv hne hr hr';go_wp2_with (fail);(with_reducible refine HA.out.mono ?_);rintro e w' ⟨rfl,rfl⟩;clear HA;go_wp2;go_ret2;exact⟨⟨u4,u5,rfl,by rw[HR.out];exact ho1.out⟩,hbw.out⟩
    . have hr':=hr.out;rw[hv,List.drop_drop]at hr';rw[hn]at hA;rw[List.length_drop,<-Lib.size_eq]at hn2;obtain⟨HA,HR⟩:=hid2 hA hr';have hb1:w.heap.size<=wr.heap.size:=hbw.out.size;clear hA hn hv hne hr hr';have e0:((n:Int)==0)=false:=by simp;omega
      go_wp2_with (fail);(with_reducible refine HA.out.mono ?_);rintro e w' ⟨rfl,rfl⟩;clear HA;go_wp2_with (at_builtin;refine wpList_append_own_at _ rfl (.tmp 21) (.tmp 23) 136 rfl w.heap.size 3 i0 (.int .i64 0) 1 8 Tryz.underlying136 HI.out HZ0.out HZ1.out HZ2.out rfl (by decide) u4 pre.length _ rfl (ho1.out.alloc _) ⟨wr.heap.size,0,none⟩ 1 1 [.int .i64 r] rfl rfl ?c1 ?c2 ?c3 ?c4 ?c5 ?_)
      case c1=>
       intro j u hj
       match j,hj with
       |0,hj=>simp at hj;subst hj;simp[Addr.add]
      case c2=>intro u hu;simp at hu;subst hu;rfl
      case c3=>unfold maxLen;omega
      case c4=>omega
      case c5=>simp;omega
      intro v1' w2 hown1 hgrow1 _ hat1;have ho1':=qz hown1;have ho2':=qz ((ho2.out.alloc (.cells #[.int .i64 r] 3)).kept hgrow1 hap.out.symm.ne);have hap':=qz (I9.step hap.out ho2.out hat1 (by omega));have hbw2:=qz ((hbw.out.alloc hb1 (.cells #[.int .i64 r] 3)).grown hgrow1 (by simp;omega) (fun k hk=>(ho1.out.lt k hk).1));have hb2:w.heap.size<=w2.heap.size:=hbw2.out.size;clear hown1 hgrow1 hat1 ho1 ho2 hap hbw hb1;go_wp2_with (at_builtin;refine wpList_append_own_at _ rfl (.tmp 25) (.tmp 27) 136 rfl w.heap.size 3 i0 (.int .i64 0) 1 8 Tryz.underlying136 HI.out HZ0.out HZ1.out HZ2.out rfl (by decide) u5 pre.length _ rfl (ho2'.out.alloc _) ⟨w2.heap.size,0,none⟩ 1 1 [.int .i64 k] rfl rfl ?d1 ?d2 ?d3 ?d4 ?d5 ?_)
      case d1=>
       intro j u hj
       match j,hj with
       |0,hj=>simp at hj;subst hj;simp[Addr.add]
      case d2=>intro u hu;simp at hu;subst hu;rfl
      case d3=>unfold maxLen;omega
      case d4=>omega
      case d5=>simp;omega
      intro v2' w3 hown2 hgrow2 _ hat2;have ho2'':=qz hown2;have ho1'':=qz ((ho1'.out.alloc (.cells #[.int .i64 k] 3)).kept hgrow2 hap'.out.ne);have hap'':=qz (I9.step hap'.out.symm ho1'.out hat2 (by omega)).symm;have hbw3:=qz ((hbw2.out.alloc hb2 (.cells #[.int .i64 k] 3)).grown hgrow2 (by simp;omega) (fun k hk=>(ho2'.out.lt k hk).1));clear hown2 hgrow2 hat2 ho1' ho2' hap' hbw2 hb2;go_wp2;go_roundw
      case rel=>exact⟨pre++ [(k,r)],f,k+n,by go_num,by omega,by omega,qz (by rw[List.append_assoc];exact HR.out),by simp;omega,qz (by rw[List.length_append,List.map_append];exact ho1''.out),qz (by rw[List.length_append,List.map_append];exact ho2''.out),hap'',hbw3⟩
      case measure=>simp only[intOf];omega
  . obtain rfl:k=s.size:=by omega
    have hr':=hr.out;have e:A8 f (s.data.toList.drop s.size) s.size= []:=by
     rw[List.drop_eq_nil_of_le (by rw[<-Lib.size_eq];omega)]
     cases f<;>simp[A8]
    rw[e,List.append_nil]at hr';have HR:=qz hr';clear hr hr' e;go_wp2;go_ret2;exact⟨⟨u4,u5,rfl,by rw[HR.out];exact ho1.out⟩,hbw.out⟩
inductive Rd (α:Type) where
 |ok (a:α) (q:Nat)
 |bad (e:Int) (q:Nat)
def Oq (c:UInt8):Bool:=c==9||c==10||c==13||c==32
def blanks:List UInt8->Nat
 | []=>0
 |c::r=>if Oq c=true then blanks r+1 else 0
def Cs (s:List UInt8) (p:Nat):Nat:=p+blanks (s.drop p)
theorem Adp {s:List UInt8} {p:Nat} {c:UInt8} (h:s[p]? =some c):s.drop p=c::s.drop (p+1):=by
 obtain⟨hlt,rfl⟩:=List.getElem?_eq_some_iff.1 h;exact List.drop_eq_getElem_cons hlt
theorem Aab {s:List UInt8} {p:Nat} {c:UInt8} (h:s[p]? =some c) (hb:Oq c=true):Cs s p=Cs s (p+1):=by
 unfold Cs;rw[Adp h,blanks,if_pos hb];omega
def Yw (c:UInt8):Bool:=decide (48<=c.toNat/\c.toNat<=57)
def Afz:List UInt8->Nat
 | []=>0
 |c::r=>if Yw c=true then Afz r+1 else 0
def Sq (s:List UInt8) (p:Nat):Nat:=p+Afz (s.drop p)
def Agv (l:List UInt8):Nat:=l.foldl (fun a c=>a*10+(c.toNat - 48)) 0
def Afm (neg:Bool) (m p q:Nat):Rd Int:=
 if neg=true then(if m=0\/9223372036854775808<m then .bad 7 p else .ok (-(m:Int)) q)else if 9223372036854775807<m then .bad 7 p else .ok (m:Int) q
def Ad3 (s:List UInt8) (p f:Nat):Rd Int:=
 if Sq s f=f then .bad 4 f
 else if s[f]? =some 48/\f+1<Sq s f then .bad 4 (f+1)
 else Afm (decide (s[p]? =some 45)) (Agv ((s.drop f).take (Sq s f - f))) p (Sq s f)
def Acq (s:List UInt8) (p:Nat):Rd Int:=Ad3 s p (if s[p]? =some 45 then p+1 else p)
def Agy (c:UInt8):Option Nat:=
 if 48<=c.toNat/\c.toNat<=57 then some (c.toNat - 48)else if 97<=c.toNat/\c.toNat<=102 then some (c.toNat - 87)else if 65<=c.toNat/\c.toNat<=70 then some (c.toNat - 55)else none
def Af1:List UInt8->Nat->Nat->Option Nat
 |_,0,n=>some n
 | [],_+1,_=>none
 |c::l,k+1,n=>match Agy c with
  |none=>none
  |some d=>Af1 l k (16*n+d)
def Aeu (l:List UInt8):Option Nat:=if l.length<6\/l[0]? ≠some 92\/l[1]? ≠some 117 then none else Af1 (l.drop 2) 4 0
def Afb (c:UInt8):Option Nat:=
 if c=34 then some 34 else if c=92 then some 92 else if c=47 then some 47 else if c=98 then some 8 else if c=102 then some 12 else if c=110 then some 10 else if c=114 then some 13 else if c=116 then some 9 else none
def Agk (r:Nat) (l:List UInt8):Rd Nat:=
 if r<55296\/57344<=r then .ok r 6
 else if 56320<=r then .bad 3 0
 else match Aeu l with
  |none=> .bad 3 0
  |some m=>if m<56320\/57344<=m then .bad 3 0 else .ok (65536+1024*(r - 55296)+(m - 56320)) 12
def Ag2 (l:List UInt8):Rd Nat:=match l[1]? with
 |none=> .bad 4 0
 |some c=>match Afb c with
  |none=> .bad 4 0
  |some r=> .ok r 2
def Agw (l:List UInt8):Rd Nat:=match Aeu l with
 |some r=>Agk r (l.drop 6)
 |none=>Ag2 l
def Afs:Nat->List UInt8->Nat->List UInt8->Rd (List UInt8)
 |0,_,i,_=> .bad 4 i
 |f+1,s,i,out=>match s[i]? with
  |none=> .bad 4 i
  |some c=>
   if c=34 then .ok out (i+1)
   else if c.toNat<32 then .bad 4 i
   else if c=92 then(match Agw (s.drop i)with
    | .bad e _=> .bad e i
    | .ok r n=>Afs f s (i+n) (out++Lib.encodeRune (r:Int)))
   else if(Lib.decodeL (s.drop i)).1=65533/\(Lib.decodeL (s.drop i)).2=1 then .bad 3 i
   else Afs f s (i+(Lib.decodeL (s.drop i)).2) (out++(s.drop i).take (Lib.decodeL (s.drop i)).2)
def Aev (s:List UInt8) (p:Nat):Rd (List UInt8):=if s[p]? =some 34 then Afs (s.length - p) s (p+1) []else .bad 4 p
def Rd.within {α:Type} (p n:Nat):Rd α->Prop
 | .ok _ q=>p<q/\q<=n
 | .bad e q=>p<=q/\q<=n/\1<=e/\e<=18
def Ms:ByteArray:=⟨#[]⟩
def Agh:Val:=.mk 1 false 0 Ms [] []
def Aej (b:Bool):Val:=.mk 2 b 0 Ms [] []
def Ag0 (n:Int):Val:=.mk 3 false n Ms [] []
def Ahe (l:List UInt8):Val:=.mk 4 false 0 ⟨l.toArray⟩ [] []
def Agd (l:List Val):Val:=.mk 5 false 0 Ms l []
def Agi (o:List (ByteArray×Val)):Val:=.mk 6 false 0 Ms [] o
def Rd.map {α β:Type} (g:α->β):Rd α->Rd β
 | .ok a q=> .ok (g a) q
 | .bad e q=> .bad e q
def Yg (s:List UInt8) (p:Nat) (w:List UInt8) (v:Val):Rd Val:=if w.isPrefixOf (s.drop p)=true then .ok v (p+w.length)else .bad 4 p
def Ago (l:List (ByteArray×Val)):List (ByteArray×Val):=(C3 l []).getD []
def Agx (k:ByteArray) (l:List (ByteArray×Val)):Bool:=l.any fun m=>decide (m.1=k)
def Aee (c:UInt8):Bool:=Yw c||c==45||c==34||c==91||c==123||c==110||c==116||c==102
mutual
def Ln:Nat->List UInt8->Nat->Int->Rd Val
 |0,s,p,_=> .bad 4 (Cs s p)
 |f+1,s,p,d=>match s[Cs s p]? with
  |none=> .bad 4 (Cs s p)
  |some c=>
   if Aee c=false then .bad 4 (Cs s p)
   else if 64<d then .bad 5 (Cs s p)
   else if c=91 then Agc f s (Cs s p) d
   else if c=123 then Aha f s (Cs s p) d
   else if c=34 then(Aev s (Cs s p)).map Ahe
   else if c=110 then Yg s (Cs s p) [110,117,108,108] Agh
   else if c=116 then Yg s (Cs s p) [116,114,117,101] (Aej true)
   else if c=102 then Yg s (Cs s p) [102,97,108,115,101] (Aej false)
   else(Acq s (Cs s p)).map Ag0
def Agc:Nat->List UInt8->Nat->Int->Rd Val
 |0,s,p,_=> .bad 4 (Cs s (p+1))
 |f+1,s,p,d=>if s[Cs s (p+1)]? =some 93 then .ok (Agd []) (Cs s (p+1)+1)else Acd f s (Cs s (p+1)) d []
def Aha:Nat->List UInt8->Nat->Int->Rd Val
 |0,s,p,_=> .bad 4 (Cs s (p+1))
 |f+1,s,p,d=>if s[Cs s (p+1)]? =some 125 then .ok (Agi []) (Cs s (p+1)+1)else Vf f s (Cs s (p+1)) d []
def Acd:Nat->List UInt8->Nat->Int->List Val->Rd Val
 |0,s,p,_,_=> .bad 4 (Cs s p)
 |f+1,s,p,d,acc=>match Ln f s p (d+1)with
  | .bad e q=> .bad e q
  | .ok v q=>if s[Cs s q]? =some 44 then Acd f s (Cs s q+1) d (acc++ [v])else if s[Cs s q]? =some 93 then .ok (Agd (acc++ [v])) (Cs s q+1)else .bad 4 (Cs s q)
def Vf:Nat->List UInt8->Nat->Int->List (ByteArray×Val)->Rd Val
 |0,s,p,_,_=> .bad 4 (Cs s p)
 |f+1,s,p,d,acc=>match Aev s (Cs s p)with
  | .bad e q=> .bad e q
  | .ok k q=>if Agx ⟨k.toArray⟩ acc=true then .bad 8 (Cs s p)
    else if s[Cs s q]? =some 58 then Ad2 f s (Cs s q+1) d acc ⟨k.toArray⟩
    else .bad 4 (Cs s q)
def Ad2:Nat->List UInt8->Nat->Int->List (ByteArray×Val)->ByteArray->Rd Val
 |0,s,p,_,_,_=> .bad 4 (Cs s p)
 |f+1,s,p,d,acc,k=>match Ln f s p (d+1)with
  | .bad e q=> .bad e q
  | .ok v q=>if s[Cs s q]? =some 44 then Vf f s (Cs s q+1) d (acc++ [(k,v)])else if s[Cs s q]? =some 125 then .ok (Agi (Ago (acc++ [(k,v)]))) (Cs s q+1)else .bad 4 (Cs s q)
end
theorem Rd.within.from {α:Type} {p p' n:Nat} {r:Rd α} (h:r.within p' n) (hp:p<=p'):r.within p n:=by
 cases r with
 |ok a q=>exact⟨by have:=h.1;omega,h.2⟩
 |bad e q=>exact⟨by have:=h.1;omega,h.2⟩
theorem Rd.within.map {α β:Type} {g:α->β} {p n:Nat} {r:Rd α} (h:r.within p n):(r.map g).within p n:=by
 cases r<;>exact h
end Go.Proofs.YtdbejcbbhomdbaaGreatDoor
