/- Parts: A range over an iterator that yields a known list, each of it in one of several ways (what way, q, is known in the round alone), by a body that always goes on. No condition. -/
import Derived.Laws.AppendOwn
import Derived.Lib.Builder
import Derived.RangeFuncNested
import Derived.RangeFuncBound
import Derived.RangeFuncCalls
import Derived.RangeFuncLeaves
import Derived.OwnWalkIn
import Derived.TacticsInMore
import Derived.Lib.RuneBytes
import Derived.IntWalk
import Derived.Laws.IdiomStrings
import Derived.Test.YtobmaegpfbheoaaGreatDoorKMo1
set_option maxHeartbeats 20000000
namespace Go.Proofs.YtobmaegpfbheoaaGreatDoor
open Go.RowKit
def L5 (w:World) (B:Nat):List Val->List Value->Prop
 | [],ns=>ns= []
 |v::r,ns=> ∃cs rest,ns=cs++rest/\Ac w B v cs/\L5 w B r rest
theorem Ac.len {w:World} {B:Nat} {v:Val} {cs:List Value} (h:Ac w B v cs):cs.length=6/\ ∀u ∈ cs,u.oneCell'=true:=by
 obtain⟨k,b,n,t,l,o⟩:=v;simp only[Ac]at h;obtain⟨la,lc,oa,oc,rfl,_,_⟩:=h;refine⟨rfl,fun u hu=> ?_⟩;simp only[List.mem_cons,List.not_mem_nil,or_false]at hu;rcases hu with rfl|rfl|rfl|rfl|rfl|rfl<;>rfl
theorem L5.len {w:World} {B:Nat}: ∀{l:List Val} {ns:List Value},L5 w B l ns->ns.length=l.length*6/\ ∀u ∈ ns,u.oneCell'=true
 | [],ns,h=>by
   have:ns= []:=h;subst this;exact⟨rfl,fun u hu=>by cases hu⟩
 |v::r,ns,h=>by
  obtain⟨cs,rest,rfl,h1,h2⟩:=h;obtain⟨a1,a2⟩:=h1.len;obtain⟨b1,b2⟩:=L5.len h2;refine⟨by rw[List.length_append,a1,b1,List.length_cons];omega,fun u hu=> ?_⟩;rcases List.mem_append.1 hu with hu|hu
  . exact a2 u hu
  . exact b2 u hu
theorem Ax.row {w:World} {B:Nat}: ∀{l:List Val} {g off:Nat},Ax w B l g off-> ∃ns,L5 w B l ns/\ ∀j u,ns[j]? =some u->w.cell? ⟨g,off+j,none⟩=some u
 | [],_,_,_=>⟨[],rfl,fun j u h=>by simp at h⟩
 |v::r,g,off,h=>by
  simp only[Ax]at h;obtain⟨⟨cs,h1,h2⟩,h3⟩:=h;obtain⟨ns,h4,h5⟩:=Ax.row h3;refine⟨cs++ns,⟨cs,ns,rfl,h1,h4⟩,fun j u hu=> ?_⟩;have hl:=h1.len.1;by_cases hj:j<6
  . rw[List.getElem?_append_left (by omega)]at hu;exact h2 j u hu
  . rw[List.getElem?_append_right (by omega),hl]at hu;have:=h5 (j - 6) u hu
    rwa [show off+6+(j - 6)=off+j from by omega]at this
theorem L5.holds {w w':World} {B B':Nat} (hk: ∀v cs,Ac w B v cs->Ac w' B' v cs) {g:Nat}: ∀{l:List Val} {ns:List Value} {off:Nat},L5 w B l ns->(∀j u,ns[j]? =some u->w'.cell? ⟨g,off+j,none⟩=some u)->Ax w' B' l g off
 | [],_,_,_,_=>by simp[Ax]
 |v::r,ns,off,h,hc=>by
  obtain⟨cs,rest,rfl,h1,h2⟩:=h;have hl:=h1.len.1;simp only[Ax];refine⟨⟨cs,hk v cs h1,fun j u hu=>hc j u ?_⟩,L5.holds hk h2 (fun j u hu=> ?_)⟩
  . have:=(List.getElem?_eq_some_iff.1 hu).1;rw[List.getElem?_append_left this];exact hu
  . rw[show off+6+j=off+(6+j)from by omega];refine hc (6+j) u ?_;rw[List.getElem?_append_right (by omega),hl,show 6+j - 6=j from by omega];exact hu
theorem L5.snoc {w:World} {B:Nat} {v:Val} {cs:List Value} (hv:Ac w B v cs): ∀{l:List Val} {ns:List Value},L5 w B l ns->L5 w B (l++ [v]) (ns++cs)
 | [],ns,h=>by
   have:ns= []:=h;subst this;exact⟨cs, [],by simp,hv,rfl⟩
 |x::r,ns,h=>by
  obtain⟨c1,rest,rfl,h1,h2⟩:=h;exact⟨c1,rest++cs,by simp,h1,L5.snoc hv h2⟩
def within:Val->List Val
 | .mk k _ _ _ l o=>if k=5 then l else if k=6 then o.map (·.2)else []
theorem L5.more {w:World} {B B':Nat} (h:B<=B'): ∀{l:List Val} {ns:List Value},L5 w B l ns->L5 w B' l ns
 | [],_,e=>e
 |_::_,_,⟨cs,rest,e,h1,h2⟩=>⟨cs,rest,e,Ac.more h _ _ h1,L5.more h h2⟩
def Jf (w:World) (B:Nat):List (ByteArray×Val)->List Value->Prop
 | [],ns=>ns= []
 |(key,v)::r,ns=> ∃cs rest,ns=.string key::(cs++rest)/\Ac w B v cs/\Jf w B r rest
theorem Jf.more {w:World} {B B':Nat} (h:B<=B'): ∀{l:List (ByteArray×Val)} {ns:List Value},Jf w B l ns->Jf w B' l ns
 | [],_,e=>e
 |(_,_)::_,_,⟨cs,rest,e,h1,h2⟩=>⟨cs,rest,e,Ac.more h _ _ h1,Jf.more h h2⟩
theorem Jf.holds {w:World} {B:Nat} {g:Nat}: ∀{l:List (ByteArray×Val)} {ns:List Value} {off:Nat},Jf w B l ns->(∀j u,ns[j]? =some u->w.cell? ⟨g,off+j,none⟩=some u)->A4 w B l g off
 | [],_,_,_,_=>by simp[A4]
 |(key,v)::r,ns,off,h,hc=>by
  obtain⟨cs,rest,rfl,h1,h2⟩:=h;have hl:=h1.len.1;simp only[A4,Ma];refine⟨⟨hc 0 _ rfl,cs,h1,fun j u hu=> ?_⟩,Jf.holds h2 (fun j u hu=> ?_)⟩
  . have h3:=(List.getElem?_eq_some_iff.1 hu).1;rw[show off+1+j=off+(j+1)from by omega];refine hc (j+1) u ?_;rw[List.getElem?_cons_succ,List.getElem?_append_left h3];exact hu
  . rw[show off+7+j=off+(6+j+1)from by omega];refine hc (6+j+1) u ?_;rw[List.getElem?_cons_succ,List.getElem?_append_right (by omega),hl,show 6+j - 6=j from by omega];exact hu
theorem Jf.snoc {w:World} {B:Nat} {key:ByteArray} {v:Val} {cs:List Value} (hv:Ac w B v cs): ∀{l:List (ByteArray×Val)} {ns:List Value},Jf w B l ns->Jf w B (l++ [(key,v)]) (ns++(.string key::cs))
 | [],ns,h=>by
   have:ns= []:=h;subst this;exact⟨cs, [],by simp,hv,rfl⟩
 |(k',x)::r,ns,h=>by
  obtain⟨c1,rest,rfl,h1,h2⟩:=h;exact⟨c1,rest++(.string key::cs),by simp,h1,Jf.snoc hv h2⟩
theorem O5:(Tryz.prog.info? 42).map (fun i=>(i.zero,i.size,i.bytes))=some (some (.agg #[.int .i64 0,.bool false,.int .i64 0,.string ⟨#[]⟩,.slice none 0 0,.slice none 0 0]),6,88):=by kernel_rfl
theorem Yn:(Tryz.prog.info? 74).map (fun i=>(i.zero,i.size,i.bytes))=some (some (.agg #[.string ⟨#[]⟩,.int .i64 0,.bool false,.int .i64 0,.string ⟨#[]⟩,.slice none 0 0,.slice none 0 0]),7,104):=by kernel_rfl
theorem G9 (w:World) (b i:Nat) (V:Value) {c:Nat} (h:c≠b):(w.setCell ⟨b,i,none⟩ V).heap[c]? =w.heap[c]? :=by
 simp only[World.setCell,Array.getElem?_modify];rw[if_neg (fun e=>h e.symm)]
def Afe {α:Type} (P:Program) (gf:Nat) (lb:Array Value) (encs:α->Array Value) (xs:List α) (N:World->Prop):Prop:=
 ∀(n l:Nat) (J:List α->World->Prop) (W:World),(∀s A B,J s A->Below A.heap.size A B->J s B)->(∀s A,J s A->N A)->
  (∀pre x rest A,xs=pre++x::rest->J pre A->YieldAt Fence.wide n P l (encs x) A fun e B=>e=.returned (.bool true)/\J (pre++ [x]) B)->
  J [] W->CallsIn Fence.wide (n+1) P gf (#[.func (.yield l) #[] #[]]++lb) W fun e B=>(∃v,e=.returned v)/\J xs B
def Aba (I:World->Prop) (d:Nat) (W:World):Exit->Act->World->Prop
 | .normal,_,W'=>W'.heap[d]? =W.heap[d]? /\W'.heap[d+1]? =W.heap[d+1]? /\I W'
 |_,_,_=>False
theorem Xi {α:Type} {P:Program} {g:Operand} {ps:Array Tmp} {assign body:Code} {Q:Exit->Act->World->Prop} {a:Act} {w:World} {n:Nat}
 {gf:Nat} {lb:Array Value} (hg:a.eval g=.func (.func gf) #[] lb) (eg: ∀args w,(callFunc gf args).run P w=.ok (.enter gf args) w)
 {encs:α->Array Value} {xs:List α} {N:World->Prop} (hit:Afe P gf lb encs xs N) (hps: ∀x,(encs x).size=ps.size)
 (I:List α->World->Prop) (hIn: ∀s A B,I s A->Below A.heap.size A B->I s B)
 (hIp: ∀s A k o o',I s A->A.heap[k]? =some o->o.isCells=false->(k=w.heap.size\/k=w.heap.size+1)->I s (A.putObj k o'))
 (hIb: ∀s A,I s A->N A) (h0:I [] w) (a₁:α->Act)
 (hassign: ∀(l:Nat) (x:α) (W:World) (K:Act->World->Prop),K (a₁ x) W->
   assign.wpIn (Fence.wide.inRound l) n P (Exit.then K (fun _ _ _=>False)) {tmps:=(ps.zip (encs x)).foldl (fun t (p,v)=>t.setIfInBounds p v) a.tmps,defers:= []} W)
 (hbody: ∀(l:Nat) (pre:List α) (x:α) (rest:List α) (W:World),xs=pre++x::rest->I pre W->(∃ds,W.heap[w.heap.size]? =some (.deferred ds))->(∃r,W.heap[w.heap.size+1]? =some (.loop r))->
   body.wpIn (Fence.wide.inRound l) n P (Aba (I (pre++ [x])) w.heap.size W) (a₁ x) W)
 (hdone: ∀(W:World),I xs W->W.heap[w.heap.size]? =some (.deferred (some []))->Q .normal {a with defers:={target:=.collected w.heap.size,args:= #[]}::a.defers} W):
 (Code.rangeFunc g ps assign body).wpIn Fence.wide (n+1+1) P Q a w:=by
 refine wpIn_rangeFunc ?_;intro fn hfn;have hro:Fence.wide.round=none:=rfl;rw[hro];obtain⟨rec,hrec⟩: ∃rec:LoopState->Option Code->Loop,rec=fun st pe=>{state:=st,pending:=pe,fn,tmps:=a.tmps,params:=ps,assign,body,defers:=w.heap.size}:=⟨_,rfl⟩;obtain⟨W1,hW1⟩: ∃W1,(w.alloc (.deferred (some []))).alloc (.loop (rec .ready none))=W1:=⟨_,rfl⟩;have hL1:W1.heap[w.heap.size+1]? =some (.loop (rec .ready none)):=by
  rw[<-hW1];have:=World.alloc_heap_new (w.alloc (.deferred (some []))) (.loop (rec .ready none));rwa [World.size_alloc]at this
 have hK1:W1.heap[w.heap.size]? =some (.deferred (some [])):=by
  rw[<-hW1];exact(Below.heap_alloc _ _ _ (by simp)).trans (World.alloc_heap_new w _)
 have hI1:I [] W1:=by
  rw[<-hW1];exact hIn _ _ _ h0 (((Below.refl _ w).alloc (Nat.le_refl _) _).alloc (by simp) _)
 refine⟨w.heap.size+1, [{target:=.collected w.heap.size,args:= #[]}],W1,{target:=.fn (.func gf) lb,args:= #[.func (.yield (w.heap.size+1)) #[] #[]]},W1,gf,
  #[.func (.yield (w.heap.size+1)) #[] #[]]++lb,W1, ?_, ?_, ?_, ?_,fun h=>by simp[Fence.wide]at h, ?_⟩
 . rw[<-hW1,hrec];exact run_enterLoop_outer _ _ _ _ _
 . simp only[resolve,hg];simp[go_sem]
 . intro f' _;trivial
 . simp[invoke,go_sem,eg]
 . refine(hit n (w.heap.size+1)
    (fun pre W=>I pre W/\W.heap[w.heap.size+1]? =some (.loop (rec .ready none))/\W.heap[w.heap.size]? =some (.deferred (some [])))
    W1 (fun s A B hs hb=>⟨hIn s A B hs.1 hb,(hb.block _ (Array.getElem?_eq_some_iff.1 hs.2.1).1).trans hs.2.1,(hb.block _ (Array.getElem?_eq_some_iff.1 hs.2.2).1).trans hs.2.2⟩)
    (fun s A hs=>hIb s A hs.1) ?_ ⟨hI1,hL1,hK1⟩).mono ?_
   ·
    rintro pre x rest W hx ⟨hi,hl,hk⟩;have hlt:w.heap.size+1<W.heap.size:=(Array.getElem?_eq_some_iff.1 hl).1;have hy:=run_yield (P:=P) (args:=encs x) hl (by rw[hrec];exact hps x);rw[hrec]at hy;refine⟨fn,_,assign,body,hy,roundIn_of_wpIn trivial (hassign _ x W _ ⟨_,run_beginRound hl (by rw[hrec]), ?_⟩)⟩;have hl2:(W.putObj (w.heap.size+1) (.loop {rec .ready none with state:=.busy})).heap[w.heap.size+1]? =some (.loop {rec .ready none with state:=.busy}):=World.putObj_heap_same hlt;have hk2:(W.putObj (w.heap.size+1) (.loop {rec .ready none with state:=.busy})).heap[w.heap.size]? =some (.deferred (some [])):=(World.putObj_heap_other (by omega)).trans hk;refine wpIn_mono (hbody _ pre x rest _ hx (hIp _ _ _ _ _ hi hl rfl (.inr rfl)) ⟨_,hk2⟩ ⟨_,hl2⟩) ?_;rintro e a3 W3 hp
    cases e with
    |normal=>
     obtain⟨h1,h2,hi3⟩:=hp;have hl3:=h2.trans hl2;have hk3:=h1.trans hk2;have hr:=run_endRound (P:=P) none hl3;rw[hrec]at hr;refine⟨_,_,hr,rfl,hIp _ _ _ _ _ hi3 hl3 rfl (.inr rfl), ?_, ?_⟩
     . rw[World.putObj_heap_same (Array.getElem?_eq_some_iff.1 hl3).1,hrec];rfl
     . exact(World.putObj_heap_other (by omega)).trans hk3
    |ret=>exact hp.elim
    |exit id=>exact hp.elim
    |goto t=>exact hp.elim
    |panic ch=>exact hp.elim
    |outgrown=>exact hp.elim
   ·
    rintro e W2 ⟨⟨v,rfl⟩,hi,hl,hk⟩;exact⟨none,_,by have:=run_endLoop (P:=P) hl (by rw[hrec];simp);rw[hrec]at this;exact this,hdone _ (hIp _ _ _ _ _ hi hl rfl (.inr rfl)) ((World.putObj_heap_other (by omega)).trans hk)⟩
theorem Aix {z:Int} (h0:0<=z) (h1:z<256):((z.toNat.toUInt8).toNat:Int)=z:=by
 have:z.toNat<256:=by omega
 simp[Nat.toUInt8,UInt8.toNat_ofNat',Nat.mod_eq_of_lt this];omega
theorem Nj (w:World) (zs:List Int) (hz: ∀z ∈ zs,0<=z/\z<256) (t:TypeId):
 (convert 26 9 (.slice (some ⟨w.heap.size,0,none⟩) zs.length zs.length)).run Tryz.prog (w.alloc (.cells (zs.map (Value.int .u8)).toArray t))=.ok (.string ⟨(zs.map fun z=>z.toNat.toUInt8).toArray⟩) (w.alloc (.cells (zs.map (Value.int .u8)).toArray t)):=by
 have:=run_convert_bytes_back (P:=Tryz.prog) (w.alloc (.cells (zs.map (Value.int .u8)).toArray t)) 26 9 5 ⟨w.heap.size,0,none⟩ zs.length (zs.map fun z=>z.toNat.toUInt8) Tryz.underlying26 Tryz.underlying5 Tryz.underlying9 (by
  intro j hj;rw[List.length_map]at hj;have hh:(w.alloc (.cells (zs.map (Value.int .u8)).toArray t)).heap[w.heap.size]? =some (.cells (zs.map (Value.int .u8)).toArray t (0,0)):=heap_alloc_new _ _;rw[show(⟨w.heap.size,0,none⟩:Addr).add j=⟨w.heap.size,j,none⟩from by unfold Addr.add;split<;>simp_all];rw[Lib.cell_of_heap hh];simp only[List.getElem?_toArray,List.getElem?_map,List.getElem?_eq_getElem hj,Option.map_some,List.getElem_map];rw[Aix (hz _ (List.getElem_mem hj)).1 (hz _ (List.getElem_mem hj)).2])
 rwa [List.length_map]at this
set_option maxRecDepth 20000 in
theorem Vq (r:Int) (h0:0<=r) (h1:r<=1114111) (hs: ¬(55296<=r/\r<57344)) (w:World):
 Calls Tryz.prog 114 #[.int .i64 r] w fun e w'=>e=.returned (.string ⟨(Lib.encodeRune r).toArray⟩)/\Below w.heap.size w w':=by
 by_cases c1:r<128
 . have e:Lib.encodeRune r= [r].map fun z=>z.toNat.toUInt8:=by unfold Lib.encodeRune;rw[Lib.encodeRuneZ_one h0 (by omega)]
   have hB:=Nj w [r] (by intro z hz;simp at hz;omega) 5;rw[e];simp only[List.map_cons,List.map_nil,List.length_cons,List.length_nil]at hB ⊢;go_enter Tryz.func114,Tryz.ntmps114;go_wp2;go_ret;exact⟨rfl,(Below.refl _ _).alloc (Nat.le_refl _) _⟩
 by_cases c2:r<2048
 . have e:Lib.encodeRune r= [192+r / 64,128+r % 64].map fun z=>z.toNat.toUInt8:=by unfold Lib.encodeRune;rw[Lib.encodeRuneZ_two (by omega) (by omega)]
   have hB:=Nj w [192+r / 64,128+r % 64] (by intro z hz;simp at hz;omega) 5;rw[e];have b1:0<=r / 64:=by omega
   have b2:r / 64<32:=by omega
   have b3:0<=r % 64:=by omega
   have b4:r % 64<64:=by omega
   simp only[List.map_cons,List.map_nil,List.length_cons,List.length_nil]at hB ⊢;obtain⟨z1,hz1⟩: ∃z,192+r / 64=z:=⟨_,rfl⟩;obtain⟨z2,hz2⟩: ∃z,128+r % 64=z:=⟨_,rfl⟩;have d1:0<=z1/\z1<256:=by omega
   have d2:0<=z2/\z2<256:=by omega
   rw[hz1,hz2]at hB ⊢;go_enter Tryz.func114,Tryz.ntmps114;go_wp2;go_ret;exact⟨rfl,(Below.refl _ _).alloc (Nat.le_refl _) _⟩
 by_cases c3:r<65536
 . have e:Lib.encodeRune r= [224+r / 4096,128+r / 64 % 64,128+r % 64].map fun z=>z.toNat.toUInt8:=by unfold Lib.encodeRune;rw[Lib.encodeRuneZ_three (by omega)]
   have hB:=Nj w [224+r / 4096,128+r / 64 % 64,128+r % 64] (by intro z hz;simp at hz;omega) 5;rw[e];have b1:0<=r / 4096:=by omega
   have b2:r / 4096<16:=by omega
   have b3:0<=r % 64:=by omega
   have b4:r % 64<64:=by omega
   have b5:0<=r / 64:=by omega
   have b6:0<=r / 64 % 64:=by omega
   have b7:r / 64 % 64<64:=by omega
   simp only[List.map_cons,List.map_nil,List.length_cons,List.length_nil]at hB ⊢;obtain⟨z1,hz1⟩: ∃z,224+r / 4096=z:=⟨_,rfl⟩;obtain⟨z2,hz2⟩: ∃z,128+r / 64 % 64=z:=⟨_,rfl⟩;obtain⟨z3,hz3⟩: ∃z,128+r % 64=z:=⟨_,rfl⟩;have d1:0<=z1/\z1<256:=by omega
   have d2:0<=z2/\z2<256:=by omega
   have d3:0<=z3/\z3<256:=by omega
   rw[hz1,hz2,hz3]at hB ⊢;go_enter Tryz.func114,Tryz.ntmps114;go_wp2;go_ret;exact⟨rfl,(Below.refl _ _).alloc (Nat.le_refl _) _⟩
 . have e:Lib.encodeRune r= [240+r / 262144,128+r / 4096 % 64,128+r / 64 % 64,128+r % 64].map fun z=>z.toNat.toUInt8:=by unfold Lib.encodeRune;rw[Lib.encodeRuneZ_four (by omega) (by omega)]
   have hB:=Nj w [240+r / 262144,128+r / 4096 % 64,128+r / 64 % 64,128+r % 64] (by intro z hz;simp at hz;omega) 5;rw[e];have b1:0<=r / 262144:=by omega
   have b2:r / 262144<8:=by omega
   have b3:0<=r % 64:=by omega
   have b4:r % 64<64:=by omega
   have b5:0<=r / 64:=by omega
   have b6:0<=r / 64 % 64:=by omega
   have b7:r / 64 % 64<64:=by omega
   have b8:0<=r / 4096:=by omega
   have b9:0<=r / 4096 % 64:=by omega
   have b10:r / 4096 % 64<64:=by omega
   simp only[List.map_cons,List.map_nil,List.length_cons,List.length_nil]at hB ⊢;obtain⟨z0,hz0⟩: ∃z,240+r / 262144=z:=⟨_,rfl⟩;obtain⟨z1,hz1⟩: ∃z,128+r / 4096 % 64=z:=⟨_,rfl⟩;obtain⟨z2,hz2⟩: ∃z,128+r / 64 % 64=z:=⟨_,rfl⟩;obtain⟨z3,hz3⟩: ∃z,128+r % 64=z:=⟨_,rfl⟩;have d0:0<=z0/\z0<256:=by omega
   have d1:0<=z1/\z1<256:=by omega
   have d2:0<=z2/\z2<256:=by omega
   have d3:0<=z3/\z3<256:=by omega
   rw[hz0,hz1,hz2,hz3]at hB ⊢;go_enter Tryz.func114,Tryz.ntmps114;go_wp2;go_ret;exact⟨rfl,(Below.refl _ _).alloc (Nat.le_refl _) _⟩
def Acx {α β:Type} (P:Program) (gf:Nat) (lb:Array Value) (encs:α->β->Array Value) (E:α->β->World->Prop) (xs:List α) (N:World->Prop):Prop:=
 ∀(n l:Nat) (J:List α->World->Prop) (W:World),(∀s A B,J s A->Below A.heap.size A B->J s B)->(∀s A,J s A->N A)->
  (∀pre x rest q A,xs=pre++x::rest->J pre A->E x q A->YieldAt Fence.wide n P l (encs x q) A fun e B=>e=.returned (.bool true)/\J (pre++ [x]) B)->
  J [] W->CallsIn Fence.wide (n+1) P gf (#[.func (.yield l) #[] #[]]++lb) W fun e B=>(∃v,e=.returned v)/\J xs B
theorem Uc {α β:Type} {P:Program} {g:Operand} {ps:Array Tmp} {assign body:Code} {Q:Exit->Act->World->Prop} {a:Act} {w:World} {n:Nat}
 {gf:Nat} {lb:Array Value} (hg:a.eval g=.func (.func gf) #[] lb) (eg: ∀args w,(callFunc gf args).run P w=.ok (.enter gf args) w)
 {encs:α->β->Array Value} {E:α->β->World->Prop} {xs:List α} {N:World->Prop} (hit:Acx P gf lb encs E xs N) (hps: ∀x q,(encs x q).size=ps.size)
 (hEp: ∀x q A k o o',E x q A->A.heap[k]? =some o->o.isCells=false->E x q (A.putObj k o'))
 (I:List α->World->Prop) (hIn: ∀s A B,I s A->Below A.heap.size A B->I s B)
 (hIp: ∀s A k o o',I s A->A.heap[k]? =some o->o.isCells=false->(k=w.heap.size\/k=w.heap.size+1)->I s (A.putObj k o'))
 (hIb: ∀s A,I s A->N A) (h0:I [] w) (a₁:α->β->Act)
 (hassign: ∀(l:Nat) (x:α) (q:β) (W:World) (K:Act->World->Prop),K (a₁ x q) W->
   assign.wpIn (Fence.wide.inRound l) n P (Exit.then K (fun _ _ _=>False)) {tmps:=(ps.zip (encs x q)).foldl (fun t (p,v)=>t.setIfInBounds p v) a.tmps,defers:= []} W)
 (hbody: ∀(l:Nat) (pre:List α) (x:α) (rest:List α) (q:β) (W:World),xs=pre++x::rest->I pre W->E x q W->(∃ds,W.heap[w.heap.size]? =some (.deferred ds))->(∃r,W.heap[w.heap.size+1]? =some (.loop r))->
   body.wpIn (Fence.wide.inRound l) n P (Aba (I (pre++ [x])) w.heap.size W) (a₁ x q) W)
 (hdone: ∀(W:World),I xs W->W.heap[w.heap.size]? =some (.deferred (some []))->Q .normal {a with defers:={target:=.collected w.heap.size,args:= #[]}::a.defers} W):
 (Code.rangeFunc g ps assign body).wpIn Fence.wide (n+1+1) P Q a w:=by
 refine wpIn_rangeFunc ?_;intro fn hfn;have hro:Fence.wide.round=none:=rfl;rw[hro];obtain⟨rec,hrec⟩: ∃rec:LoopState->Option Code->Loop,rec=fun st pe=>{state:=st,pending:=pe,fn,tmps:=a.tmps,params:=ps,assign,body,defers:=w.heap.size}:=⟨_,rfl⟩;obtain⟨W1,hW1⟩: ∃W1,(w.alloc (.deferred (some []))).alloc (.loop (rec .ready none))=W1:=⟨_,rfl⟩;have hL1:W1.heap[w.heap.size+1]? =some (.loop (rec .ready none)):=by
  rw[<-hW1];have:=World.alloc_heap_new (w.alloc (.deferred (some []))) (.loop (rec .ready none));rwa [World.size_alloc]at this
 have hK1:W1.heap[w.heap.size]? =some (.deferred (some [])):=by
  rw[<-hW1];exact(Below.heap_alloc _ _ _ (by simp)).trans (World.alloc_heap_new w _)
 have hI1:I [] W1:=by
  rw[<-hW1];exact hIn _ _ _ h0 (((Below.refl _ w).alloc (Nat.le_refl _) _).alloc (by simp) _)
 refine⟨w.heap.size+1, [{target:=.collected w.heap.size,args:= #[]}],W1,{target:=.fn (.func gf) lb,args:= #[.func (.yield (w.heap.size+1)) #[] #[]]},W1,gf,
  #[.func (.yield (w.heap.size+1)) #[] #[]]++lb,W1, ?_, ?_, ?_, ?_,fun h=>by simp[Fence.wide]at h, ?_⟩
 . rw[<-hW1,hrec];exact run_enterLoop_outer _ _ _ _ _
 . simp only[resolve,hg];simp[go_sem]
 . intro f' _;trivial
 . simp[invoke,go_sem,eg]
 . refine(hit n (w.heap.size+1)
    (fun pre W=>I pre W/\W.heap[w.heap.size+1]? =some (.loop (rec .ready none))/\W.heap[w.heap.size]? =some (.deferred (some [])))
    W1 (fun s A B hs hb=>⟨hIn s A B hs.1 hb,(hb.block _ (Array.getElem?_eq_some_iff.1 hs.2.1).1).trans hs.2.1,(hb.block _ (Array.getElem?_eq_some_iff.1 hs.2.2).1).trans hs.2.2⟩)
    (fun s A hs=>hIb s A hs.1) ?_ ⟨hI1,hL1,hK1⟩).mono ?_
   ·
    rintro pre x rest q W hx ⟨hi,hl,hk⟩ hE;have hlt:w.heap.size+1<W.heap.size:=(Array.getElem?_eq_some_iff.1 hl).1;have hy:=run_yield (P:=P) (args:=encs x q) hl (by rw[hrec];exact hps x q);rw[hrec]at hy;refine⟨fn,_,assign,body,hy,roundIn_of_wpIn trivial (hassign _ x q W _ ⟨_,run_beginRound hl (by rw[hrec]), ?_⟩)⟩;have hl2:(W.putObj (w.heap.size+1) (.loop {rec .ready none with state:=.busy})).heap[w.heap.size+1]? =some (.loop {rec .ready none with state:=.busy}):=World.putObj_heap_same hlt;have hk2:(W.putObj (w.heap.size+1) (.loop {rec .ready none with state:=.busy})).heap[w.heap.size]? =some (.deferred (some [])):=(World.putObj_heap_other (by omega)).trans hk;refine wpIn_mono (hbody _ pre x rest q _ hx (hIp _ _ _ _ _ hi hl rfl (.inr rfl)) (hEp _ _ _ _ _ _ hE hl rfl) ⟨_,hk2⟩ ⟨_,hl2⟩) ?_;rintro e a3 W3 hp
    cases e with
    |normal=>
     obtain⟨h1,h2,hi3⟩:=hp;have hl3:=h2.trans hl2;have hk3:=h1.trans hk2;have hr:=run_endRound (P:=P) none hl3;rw[hrec]at hr;refine⟨_,_,hr,rfl,hIp _ _ _ _ _ hi3 hl3 rfl (.inr rfl), ?_, ?_⟩
     . rw[World.putObj_heap_same (Array.getElem?_eq_some_iff.1 hl3).1,hrec];rfl
     . exact(World.putObj_heap_other (by omega)).trans hk3
    |ret=>exact hp.elim
    |exit id=>exact hp.elim
    |goto t=>exact hp.elim
    |panic ch=>exact hp.elim
    |outgrown=>exact hp.elim
   ·
    rintro e W2 ⟨⟨v,rfl⟩,hi,hl,hk⟩;exact⟨none,_,by have:=run_endLoop (P:=P) hl (by rw[hrec];simp);rw[hrec]at this;exact this,hdone _ (hIp _ _ _ _ _ hi hl rfl (.inr rfl)) ((World.putObj_heap_other (by omega)).trans hk)⟩
end Go.Proofs.YtobmaegpfbheoaaGreatDoor
